/- Walks: package syntax, scan (made by program out of short notes) -/
import Derived.Test.Qxb6500573aGreatDoorAM
namespace Go.Sl
open Go Go.Wl Go.Proofs
set_option maxRecDepth 100000
set_option linter.unusedVariables false
set_option linter.unusedSimpArgs false
set_option maxHeartbeats 4000000 in
theorem lx_scan (gs : Seg) (hG : GOk gs) (sx : Nat) (nv ns : Value) (old : List Tok) (ta : Option Addr) (tc : Nat) (st : Seg) (hst : Arr 156 5 ta old.length tc (old.flatMap tokV) st) (src : List UInt8) (hs : src.length ≤ 1000000) (fuel : Nat) (out : List Tok) (hsc0 : scanL fuel src 0 0 [] = some out) : Spec Tryz.prog 68 [.pointer (some ⟨sx, 0, none⟩), S src] [gs, blk sx 106 [nv, .slice ta (old.length) tc, ns], st] (Ret fun v H => v = .tuple #[] ∧ ∃ a2 c2 s2, Arr 156 5 a2 out.length c2 (out.flatMap tokV) s2 ∧ H = [gs, blk sx 106 [nv, .slice a2 out.length c2, ns], s2]) := by
  have hst0 := hst.cut (j := 0) (Nat.zero_le _)
  rw [Nat.zero_mul, List.take_zero] at hst0
  refine Spec_enter Tryz.func68 rfl Tryz.ntmps68 rfl ?_
  show SP _ _ _ _ _ [(0, _), (1, _)] _
  refine SP_scope ?_
  refine SP_seq ?_
  refine SP_region ?_
  refine SPL_y (y_move rfl) rfl ?_
  refine SPL_y (y_nil rfl) rfl ?_
  refine SPL_y (y_fa fld_106_1 rfl) rfl ?_
  refine SPL_y (y_load Tryz.isAgg104 rfl (by repeat (first | exact Cell.amid hpre rfl | exact Cell.head rfl | apply Cell.tail))) rfl ?_
  refine SPL_y (y_cut hst Tryz.underlying104 Tryz.sizeOf156 rfl rfl (by omega)) rfl ?_
  refine SPL_y (y_assign rfl) rfl ?_
  refine SPL_nil ?_
  refine thenP_n ?_
  refine SP_seq ?_
  refine SP_region ?_
  refine SPL_y (y_move rfl) rfl ?_
  refine SPL_y (y_len_s Tryz.underlying9 rfl) rfl ?_
  refine SPL_y (y_build B156 rfl rfl (by simp only [fillL, List.foldl_cons, List.foldl_nil, List.set_cons_zero, List.set_cons_succ]; exact rfl)) rfl ?_
  refine SPL_one rfl (SP1_alloc Tryz.zeroValue156 rfl rfl ?_)
  intro b5
  refine SPL_one rfl (SP1_storeAll Tryz.sizeOf156 rfl rfl rfl rfl rfl (by first | exact U0 | exact U1 | exact U2 | exact U3 | exact U4 | exact U5 | exact U6 | exact U7 | exact U8 | exact U9 | exact U10 | exact U11 | exact U12 | exact U13 | exact U14 | exact U15 | exact U16 | exact U17 | exact U18 | exact U19 | exact U20 | exact U21 | exact U22 | exact U23) (by rfl) ?_)
  refine SPL_nil ?_
  refine thenP_n ?_
  refine SP_seq ?_
  refine SP_region ?_
  refine SPL_y (y_assign rfl) rfl ?_
  refine SPL_nil ?_
  refine thenP_n ?_
  refine SP_seq ?_
  refine SP_label ?_
  refine thenP_n ?_
  refine SP_seq ?_
  refine SP_seq ?_
  refine SP_region ?_
  refine SPL_y (y_move rfl) rfl ?_
  refine SPL_one rfl (SP1_rangeS Tryz.underlying9 rfl rfl ?_)
  intro it
  refine SPL_nil ?_
  refine thenP_n ?_
  refine SP_block ?_
  refine SP_loop (G := Nat × Nat × Nat × List Tok × Option Addr × Nat × Seg × Nat) (fun g => g.1) (fun g => [(0, .pointer (some ⟨sx, 0, none⟩)), (1, S src), (4, .slice g.2.2.2.2.1 g.2.2.2.2.2.2.2 g.2.2.2.2.2.1), (5, .pointer (some ⟨b5, 0, none⟩)), (6, I g.2.2.1), (21, .pointer (some ⟨it, 0, none⟩))]) (fun g => [gs, blk sx 106 [nv, .slice ta (old.length) tc, ns], g.2.2.2.2.2.2.1, blk b5 156 (tokV (⟨0, src.length, [], 0, 0⟩ : Tok)), iterS it src g.2.1]) (fun g => Arr 156 5 g.2.2.2.2.1 g.2.2.2.1.length g.2.2.2.2.2.1 (g.2.2.2.1.flatMap tokV) g.2.2.2.2.2.2.1 ∧ scanL g.1 src g.2.1 g.2.2.1 g.2.2.2.1 = some out ∧ g.2.2.1 ≤ 2000000 ∧ g.2.2.2.2.2.2.2 = g.2.2.2.1.length) ((fuel, 0, 0, [], ta, tc, st, 0)) (⟨hst0, hsc0, by dsimp only; omega, rfl⟩) (by repeat (first | exact Sub.nil _ | refine Sub.cons rfl ?_)) (by repeat (first | exact Part.nil _ | (apply Part.cons; (first | exact P0 | exact P1 | exact P2 | exact P3 | exact P4 | exact P5 | exact P6 | exact P7 | exact P8 | exact P9 | exact P10 | exact P11 | exact P12 | exact P13 | exact P14 | exact P15 | exact P16 | exact P17 | exact P18 | exact P19 | exact P20 | exact P21 | exact P22 | exact P23)) | (apply Part.flat; simp only [List.cons_append, List.nil_append]) | (apply Part.nilc))) ?_
  rintro ⟨n0, pos, endp, toks, a1, c1, s1, tl9⟩ ⟨h1, hsc, hel, htl9⟩
  dsimp only at h1 hsc hel htl9 ⊢
  subst htl9
  cases n0 with
  | zero => cases hsc
  | succ n =>
  have htl : ¬ 100000 < toks.length := fun q => by unfold scanL at hsc; rw [if_pos q] at hsc; cases hsc
  unfold scanL at hsc
  rw [if_neg htl] at hsc
  refine SP_seq ?_
  refine SP_region ?_
  refine SPL_one rfl (SP1_nextS rfl (by first | exact P0 | exact P1 | exact P2 | exact P3 | exact P4 | exact P5 | exact P6 | exact P7 | exact P8 | exact P9 | exact P10 | exact P11 | exact P12 | exact P13 | exact P14 | exact P15 | exact P16 | exact P17 | exact P18 | exact P19 | exact P20 | exact P21 | exact P22 | exact P23) rfl ?_)
  refine SPL_ifn (y_nx0 rfl) rfl ?_ ?_
  · intro h4_1
    refine SPL_nil ?_
    refine thenP_n ?_
    refine SP_seq ?_
    refine SP_cond_f rfl ?_
    refine SP_exit ?_
    refine thenP_exit ?_
    refine thenP_exit ?_
    refine inBlockP_hit ?_
    refine thenP_n ?_
    rw [if_neg h4_1] at hsc
    cases hsc
    rw [show nextI src pos = pos from if_neg h4_1]
    refine SP_region ?_
    refine SPL_y (y_move rfl) rfl ?_
    refine SPL_y (y_move rfl) rfl ?_
    refine SPL_y (y_loads Tryz.isAgg156 Tryz.sizeOf156 rfl rfl (by repeat (first | exact Cells.all _ | exact Cells.amid hpre rfl (by decide) | exact Cells.head rfl | apply Cells.tail))) rfl ?_
    refine SPL_one rfl (SP1_slice1 el_104 rfl rfl rfl rfl rfl ?_)
    intro b207
    refine SPL_one rfl (SP1_append el_104 (.inl Tryz.underlying104) rfl rfl h1 (by first | exact P0 | exact P1 | exact P2 | exact P3 | exact P4 | exact P5 | exact P6 | exact P7 | exact P8 | exact P9 | exact P10 | exact P11 | exact P12 | exact P13 | exact P14 | exact P15 | exact P16 | exact P17 | exact P18 | exact P19 | exact P20 | exact P21 | exact P22 | exact P23) (Src.of (by repeat (first | exact Cells.all _ | exact Cells.amid hpre rfl (by decide) | exact Cells.head rfl | apply Cells.tail)) (by rfl)) (by rfl) (by omega) rfl ?_)
    intro a2 c2 s2 h2
    refine SPL_y (y_nil rfl) rfl ?_
    refine SPL_y (y_fa fld_106_1 rfl) rfl ?_
    refine SPL_one rfl (SP1_store Tryz.sizeOf104 rfl rfl rfl (by first | exact U0 | exact U1 | exact U2 | exact U3 | exact U4 | exact U5 | exact U6 | exact U7 | exact U8 | exact U9 | exact U10 | exact U11 | exact U12 | exact U13 | exact U14 | exact U15 | exact U16 | exact U17 | exact U18 | exact U19 | exact U20 | exact U21 | exact U22 | exact U23) (by rfl) ?_)
    refine SPL_nil ?_
    refine noGotoP_n ?_
    refine bodyP_end (H' := [gs, blk sx 106 [nv, .slice a2 (toks.length + 1) c2, ns], s2]) (Res0 rfl) (by repeat (first | exact Part.nil _ | (apply Part.cons; (first | exact P0 | exact P1 | exact P2 | exact P3 | exact P4 | exact P5 | exact P6 | exact P7 | exact P8 | exact P9 | exact P10 | exact P11 | exact P12 | exact P13 | exact P14 | exact P15 | exact P16 | exact P17 | exact P18 | exact P19 | exact P20 | exact P21 | exact P22 | exact P23)) | (apply Part.flat; simp only [List.cons_append, List.nil_append]) | (apply Part.nilc))) ?_
    refine ⟨rfl, a2, c2, s2, ?_, by simp⟩
    rw [List.flatMap_append, List.length_append]
    exact h2
  intro h4_1
  refine SPL_nil ?_
  refine thenP_n ?_
  refine SP_seq ?_
  refine SP_cond_t rfl ?_
  refine SP_skip ?_
  refine thenP_n ?_
  refine SP_block ?_
  refine SP_seq ?_
  rw [if_pos h4_1] at hsc
  refine SP_region ?_
  refine SPL_y (y_nx1 h4_1 rfl) rfl ?_
  refine SPL_y (y_nx2 h4_1 rfl) rfl ?_
  rw [show nextI src pos = pos + (runeAt src pos).2 from if_pos h4_1]
  obtain ⟨r, hr⟩ : ∃ r : Int, ((runeAt src pos).1 : Int) = r := ⟨_, rfl⟩
  rw [hr] at hsc ⊢
  refine SPL_y (y_assign rfl) rfl ?_
  refine SPL_y (y_assign rfl) rfl ?_
  refine SPL_nil ?_
  refine thenP_n ?_
  refine SP_seq ?_
  refine SP_seq ?_
  refine SP_region ?_
  refine SPL_y (y_move rfl) rfl ?_
  refine SPL_y (y_move rfl) rfl ?_
  refine SPL_if (y_lss rfl rfl) rfl ?_ ?_
  · intro h6_2
    refine SPL_nil ?_
    refine thenP_n ?_
    refine SP_cond_t rfl ?_
    refine SP_exit ?_
    refine thenP_exit ?_
    refine inBlockP_hit ?_
    refine thenP_n ?_
    rw [if_pos (by omega)] at hsc
    have hnext := hsc
    exact Again.intro ((n, pos + (runeAt src pos).2, endp, toks, a1, c1, s1, toks.length)) (⟨h1, hnext, by dsimp only; omega, rfl⟩) (by dsimp only; omega) (by repeat (first | exact Sub.nil _ | refine Sub.cons rfl ?_)) (by repeat (first | exact Part.nil _ | (apply Part.cons; (first | exact P0 | exact P1 | exact P2 | exact P3 | exact P4 | exact P5 | exact P6 | exact P7 | exact P8 | exact P9 | exact P10 | exact P11 | exact P12 | exact P13 | exact P14 | exact P15 | exact P16 | exact P17 | exact P18 | exact P19 | exact P20 | exact P21 | exact P22 | exact P23)) | (apply Part.flat; simp only [List.cons_append, List.nil_append]) | (apply Part.nilc)))
  intro h6_2
  refine SPL_nil ?_
  refine thenP_n ?_
  refine SP_cond_f rfl ?_
  refine SP_skip ?_
  refine thenP_n ?_
  refine SP_seq ?_
  rw [if_neg (by omega)] at hsc
  refine SP_region ?_
  refine SPL_y (y_move rfl) rfl ?_
  refine SPL_y (y_addE rfl rfl (c := ((pos + 1 : Nat) : Int)) (by omega) (by omega)) rfl ?_
  refine SPL_y (y_assign rfl) rfl ?_
  refine SPL_nil ?_
  refine thenP_n ?_
  refine SP_seq ?_
  refine SP_region ?_
  refine SPL_y (y_move rfl) rfl ?_
  refine SPL_y (y_build B156 rfl rfl (by simp only [fillL, List.foldl_cons, List.foldl_nil, List.set_cons_zero, List.set_cons_succ]; exact rfl)) rfl ?_
  refine SPL_one rfl (SP1_alloc Tryz.zeroValue156 rfl rfl ?_)
  intro b9
  refine SPL_one rfl (SP1_storeAll Tryz.sizeOf156 rfl rfl rfl rfl rfl (by first | exact U0 | exact U1 | exact U2 | exact U3 | exact U4 | exact U5 | exact U6 | exact U7 | exact U8 | exact U9 | exact U10 | exact U11 | exact U12 | exact U13 | exact U14 | exact U15 | exact U16 | exact U17 | exact U18 | exact U19 | exact U20 | exact U21 | exact U22 | exact U23) (by rfl) ?_)
  refine SPL_nil ?_
  refine thenP_n ?_
  refine SP_seq ?_
  refine SP_region ?_
  refine SPL_y (y_move rfl) rfl ?_
  refine SPL_y (y_i2s Tryz.underlying21 Tryz.underlying9 rfl) rfl ?_
  refine SPL_y (y_assign rfl) rfl ?_
  refine SPL_nil ?_
  refine thenP_n ?_
  refine SP_seq ?_
  refine SP_region ?_
  refine SPL_y (y_assign rfl) rfl ?_
  refine SPL_nil ?_
  refine thenP_n ?_
  refine SP_mid (G := Nat × Tok) (fun g => [(0, .pointer (some ⟨sx, 0, none⟩)), (1, S src), (4, .slice a1 toks.length c1), (5, .pointer (some ⟨b5, 0, none⟩)), (6, I g.1), (9, .pointer (some ⟨b9, 0, none⟩)), (21, .pointer (some ⟨it, 0, none⟩))]) (fun g => [gs, blk sx 106 [nv, .slice ta (old.length) tc, ns], s1, blk b5 156 (tokV (⟨0, src.length, [], 0, 0⟩ : Tok)), iterS it src (pos + (runeAt src pos).2), blk b9 156 (tokV g.2)]) (fun g => lexOne src pos r = some (.tok g.1 g.2) ∧ g.1 ≤ 2000000) ?_ ?_
  · refine SP_block ?_
    refine SP_mid (G := Nat × List UInt8) (fun g => [(0, .pointer (some ⟨sx, 0, none⟩)), (1, S src), (4, .slice a1 toks.length c1), (5, .pointer (some ⟨b5, 0, none⟩)), (6, I g.1), (10, S g.2), (9, .pointer (some ⟨b9, 0, none⟩)), (21, .pointer (some ⟨it, 0, none⟩))]) (fun g => [gs, blk sx 106 [nv, .slice ta (old.length) tc, ns], s1, blk b5 156 (tokV (⟨0, src.length, [], 0, 0⟩ : Tok)), iterS it src (pos + (runeAt src pos).2), blk b9 156 (tokV ⟨1, pos, [], 0, 14⟩)]) (fun g => lexOne src pos r = some (.tok (signAt src pos r).1 ⟨signM (signAt src pos r).2, pos, [], 0, 13⟩) ∧ g = signAt src pos r ∧ g.1 ≤ 2000000) ?_ ?_
    · refine SP_block ?_
      refine SP_mid (G := Int) (fun g => [(0, .pointer (some ⟨sx, 0, none⟩)), (1, S src), (4, .slice a1 toks.length c1), (5, .pointer (some ⟨b5, 0, none⟩)), (6, I ((pos + 1 : Nat) : Int)), (7, I pos), (10, S (encR r)), (11, .int .u8 g), (9, .pointer (some ⟨b9, 0, none⟩)), (21, .pointer (some ⟨it, 0, none⟩))]) (fun g => [gs, blk sx 106 [nv, .slice ta (old.length) tc, ns], s1, blk b5 156 (tokV (⟨0, src.length, [], 0, 0⟩ : Tok)), iterS it src (pos + (runeAt src pos).2), blk b9 156 (tokV ⟨1, pos, [], 0, 14⟩)]) (fun g => lexOne src pos r = some (.tok (signAt src pos r).1 ⟨signM (signAt src pos r).2, pos, [], 0, 13⟩) ∧ twinOf r = some g) ?_ ?_
      · refine SP_block ?_
        refine SP_seq ?_
        refine SP_block ?_
        refine SP_seq ?_
        refine SP_block ?_
        refine SP_seq ?_
        refine SP_block ?_
        refine SP_seq ?_
        refine SP_block ?_
        refine SP_seq ?_
        refine SP_block ?_
        refine SP_seq ?_
        refine SP_block ?_
        refine SP_seq ?_
        refine SP_seq ?_
        refine SP_seq ?_
        refine SP_region ?_
        obtain ⟨lr, hlr⟩ : ∃ lr, lexOne src pos r = some lr := by
          cases hq : lexOne src pos r with
          | none => rw [hq] at hsc; cases hsc
          | some lr => exact ⟨lr, rfl⟩
        refine SPL_y (y_move rfl) rfl ?_
        refine SPL_if (y_eql rfl rfl) rfl ?_ ?_
        · intro h11_1
          refine SPL_y (y_move rfl) rfl ?_
          refine SPL_gn rfl rfl rfl rfl ?_
          refine SPL_gn rfl rfl rfl rfl ?_
          refine SPL_y (y_pick_t rfl rfl) rfl ?_
          refine SPL_y (y_move rfl) rfl ?_
          refine SPL_gn rfl rfl rfl rfl ?_
          refine SPL_gn rfl rfl rfl rfl ?_
          refine SPL_y (y_pick_t rfl rfl) rfl ?_
          refine SPL_y (y_move rfl) rfl ?_
          refine SPL_gn rfl rfl rfl rfl ?_
          refine SPL_gn rfl rfl rfl rfl ?_
          refine SPL_y (y_pick_t rfl rfl) rfl ?_
          refine SPL_y (y_assign rfl) rfl ?_
          refine SPL_nil ?_
          refine thenP_n ?_
          refine SP_cond_t rfl ?_
          refine SP_exit ?_
          refine thenP_exit ?_
          refine thenP_exit ?_
          refine inBlockP_hit ?_
          refine thenP_n ?_
          refine SP_seq ?_
          refine SP_exit ?_
          refine thenP_exit ?_
          refine inBlockP_miss rfl ?_
          refine thenP_exit ?_
          refine inBlockP_miss rfl ?_
          refine thenP_exit ?_
          refine inBlockP_miss rfl ?_
          refine thenP_exit ?_
          refine inBlockP_miss rfl ?_
          refine thenP_exit ?_
          refine inBlockP_miss rfl ?_
          refine thenP_exit ?_
          refine inBlockP_miss rfl ?_
          refine thenP_exit ?_
          refine inBlockP_miss rfl ?_
          refine thenP_exit ?_
          refine inBlockP_miss rfl ?_
          refine thenP_exit ?_
          refine inBlockP_hit ?_
          refine thenP_n ?_
          have hlr2 := hlr
          unfold lexOne at hlr2
          rw [if_pos (by omega)] at hlr2
          cases hlr2
          rw [hlr] at hsc
          have hnext : scanL n src (pos + (runeAt src pos).2) (pos + 1) toks = some out := hsc
          exact Again.intro ((n, pos + (runeAt src pos).2, (pos + 1), toks, a1, c1, s1, toks.length)) (⟨h1, hnext, by dsimp only; omega, rfl⟩) (by dsimp only; omega) (by repeat (first | exact Sub.nil _ | refine Sub.cons rfl ?_)) (by repeat (first | exact Part.nil _ | (apply Part.cons; (first | exact P0 | exact P1 | exact P2 | exact P3 | exact P4 | exact P5 | exact P6 | exact P7 | exact P8 | exact P9 | exact P10 | exact P11 | exact P12 | exact P13 | exact P14 | exact P15 | exact P16 | exact P17 | exact P18 | exact P19 | exact P20 | exact P21 | exact P22 | exact P23)) | (apply Part.flat; simp only [List.cons_append, List.nil_append]) | (apply Part.nilc)))
        intro h11_1
        refine SPL_y (y_move rfl) rfl ?_
        refine SPL_gy rfl rfl ?_
        refine SPL_y (y_move rfl) rfl ?_
        refine SPL_gy rfl rfl ?_
        refine SPL_if (y_eql rfl rfl) rfl ?_ ?_
        · intro h11_4
          refine SPL_y (y_pick_f rfl rfl) rfl ?_
          refine SPL_y (y_move rfl) rfl ?_
          refine SPL_gn rfl rfl rfl rfl ?_
          refine SPL_gn rfl rfl rfl rfl ?_
          refine SPL_y (y_pick_t rfl rfl) rfl ?_
          refine SPL_y (y_move rfl) rfl ?_
          refine SPL_gn rfl rfl rfl rfl ?_
          refine SPL_gn rfl rfl rfl rfl ?_
          refine SPL_y (y_pick_t rfl rfl) rfl ?_
          refine SPL_y (y_assign rfl) rfl ?_
          refine SPL_nil ?_
          refine thenP_n ?_
          refine SP_cond_t rfl ?_
          refine SP_exit ?_
          refine thenP_exit ?_
          refine thenP_exit ?_
          refine inBlockP_hit ?_
          refine thenP_n ?_
          refine SP_seq ?_
          refine SP_exit ?_
          refine thenP_exit ?_
          refine inBlockP_miss rfl ?_
          refine thenP_exit ?_
          refine inBlockP_miss rfl ?_
          refine thenP_exit ?_
          refine inBlockP_miss rfl ?_
          refine thenP_exit ?_
          refine inBlockP_miss rfl ?_
          refine thenP_exit ?_
          refine inBlockP_miss rfl ?_
          refine thenP_exit ?_
          refine inBlockP_miss rfl ?_
          refine thenP_exit ?_
          refine inBlockP_miss rfl ?_
          refine thenP_exit ?_
          refine inBlockP_miss rfl ?_
          refine thenP_exit ?_
          refine inBlockP_hit ?_
          refine thenP_n ?_
          have hlr2 := hlr
          unfold lexOne at hlr2
          rw [if_pos (by omega)] at hlr2
          cases hlr2
          rw [hlr] at hsc
          have hnext : scanL n src (pos + (runeAt src pos).2) (pos + 1) toks = some out := hsc
          exact Again.intro ((n, pos + (runeAt src pos).2, (pos + 1), toks, a1, c1, s1, toks.length)) (⟨h1, hnext, by dsimp only; omega, rfl⟩) (by dsimp only; omega) (by repeat (first | exact Sub.nil _ | refine Sub.cons rfl ?_)) (by repeat (first | exact Part.nil _ | (apply Part.cons; (first | exact P0 | exact P1 | exact P2 | exact P3 | exact P4 | exact P5 | exact P6 | exact P7 | exact P8 | exact P9 | exact P10 | exact P11 | exact P12 | exact P13 | exact P14 | exact P15 | exact P16 | exact P17 | exact P18 | exact P19 | exact P20 | exact P21 | exact P22 | exact P23)) | (apply Part.flat; simp only [List.cons_append, List.nil_append]) | (apply Part.nilc)))
        intro h11_4
        refine SPL_y (y_pick_f rfl rfl) rfl ?_
        refine SPL_y (y_move rfl) rfl ?_
        refine SPL_gy rfl rfl ?_
        refine SPL_y (y_move rfl) rfl ?_
        refine SPL_gy rfl rfl ?_
        refine SPL_if (y_eql rfl rfl) rfl ?_ ?_
        · intro h11_8
          refine SPL_y (y_pick_f rfl rfl) rfl ?_
          refine SPL_y (y_move rfl) rfl ?_
          refine SPL_gn rfl rfl rfl rfl ?_
          refine SPL_gn rfl rfl rfl rfl ?_
          refine SPL_y (y_pick_t rfl rfl) rfl ?_
          refine SPL_y (y_assign rfl) rfl ?_
          refine SPL_nil ?_
          refine thenP_n ?_
          refine SP_cond_t rfl ?_
          refine SP_exit ?_
          refine thenP_exit ?_
          refine thenP_exit ?_
          refine inBlockP_hit ?_
          refine thenP_n ?_
          refine SP_seq ?_
          refine SP_exit ?_
          refine thenP_exit ?_
          refine inBlockP_miss rfl ?_
          refine thenP_exit ?_
          refine inBlockP_miss rfl ?_
          refine thenP_exit ?_
          refine inBlockP_miss rfl ?_
          refine thenP_exit ?_
          refine inBlockP_miss rfl ?_
          refine thenP_exit ?_
          refine inBlockP_miss rfl ?_
          refine thenP_exit ?_
          refine inBlockP_miss rfl ?_
          refine thenP_exit ?_
          refine inBlockP_miss rfl ?_
          refine thenP_exit ?_
          refine inBlockP_miss rfl ?_
          refine thenP_exit ?_
          refine inBlockP_hit ?_
          refine thenP_n ?_
          have hlr2 := hlr
          unfold lexOne at hlr2
          rw [if_pos (by omega)] at hlr2
          cases hlr2
          rw [hlr] at hsc
          have hnext : scanL n src (pos + (runeAt src pos).2) (pos + 1) toks = some out := hsc
          exact Again.intro ((n, pos + (runeAt src pos).2, (pos + 1), toks, a1, c1, s1, toks.length)) (⟨h1, hnext, by dsimp only; omega, rfl⟩) (by dsimp only; omega) (by repeat (first | exact Sub.nil _ | refine Sub.cons rfl ?_)) (by repeat (first | exact Part.nil _ | (apply Part.cons; (first | exact P0 | exact P1 | exact P2 | exact P3 | exact P4 | exact P5 | exact P6 | exact P7 | exact P8 | exact P9 | exact P10 | exact P11 | exact P12 | exact P13 | exact P14 | exact P15 | exact P16 | exact P17 | exact P18 | exact P19 | exact P20 | exact P21 | exact P22 | exact P23)) | (apply Part.flat; simp only [List.cons_append, List.nil_append]) | (apply Part.nilc)))
        intro h11_8
        refine SPL_y (y_pick_f rfl rfl) rfl ?_
        refine SPL_y (y_move rfl) rfl ?_
        refine SPL_gy rfl rfl ?_
        refine SPL_y (y_move rfl) rfl ?_
        refine SPL_gy rfl rfl ?_
        refine SPL_if (y_eql rfl rfl) rfl ?_ ?_
        · intro h11_12
          refine SPL_y (y_pick_f rfl rfl) rfl ?_
          refine SPL_y (y_assign rfl) rfl ?_
          refine SPL_nil ?_
          refine thenP_n ?_
          refine SP_cond_t rfl ?_
          refine SP_exit ?_
          refine thenP_exit ?_
          refine thenP_exit ?_
          refine inBlockP_hit ?_
          refine thenP_n ?_
          refine SP_seq ?_
          refine SP_exit ?_
          refine thenP_exit ?_
          refine inBlockP_miss rfl ?_
          refine thenP_exit ?_
          refine inBlockP_miss rfl ?_
          refine thenP_exit ?_
          refine inBlockP_miss rfl ?_
          refine thenP_exit ?_
          refine inBlockP_miss rfl ?_
          refine thenP_exit ?_
          refine inBlockP_miss rfl ?_
          refine thenP_exit ?_
          refine inBlockP_miss rfl ?_
          refine thenP_exit ?_
          refine inBlockP_miss rfl ?_
          refine thenP_exit ?_
          refine inBlockP_miss rfl ?_
          refine thenP_exit ?_
          refine inBlockP_hit ?_
          refine thenP_n ?_
          have hlr2 := hlr
          unfold lexOne at hlr2
          rw [if_pos (by omega)] at hlr2
          cases hlr2
          rw [hlr] at hsc
          have hnext : scanL n src (pos + (runeAt src pos).2) (pos + 1) toks = some out := hsc
          exact Again.intro ((n, pos + (runeAt src pos).2, (pos + 1), toks, a1, c1, s1, toks.length)) (⟨h1, hnext, by dsimp only; omega, rfl⟩) (by dsimp only; omega) (by repeat (first | exact Sub.nil _ | refine Sub.cons rfl ?_)) (by repeat (first | exact Part.nil _ | (apply Part.cons; (first | exact P0 | exact P1 | exact P2 | exact P3 | exact P4 | exact P5 | exact P6 | exact P7 | exact P8 | exact P9 | exact P10 | exact P11 | exact P12 | exact P13 | exact P14 | exact P15 | exact P16 | exact P17 | exact P18 | exact P19 | exact P20 | exact P21 | exact P22 | exact P23)) | (apply Part.flat; simp only [List.cons_append, List.nil_append]) | (apply Part.nilc)))
        intro h11_12
        refine SPL_y (y_pick_f rfl rfl) rfl ?_
        refine SPL_y (y_assign rfl) rfl ?_
        refine SPL_nil ?_
        refine thenP_n ?_
        refine SP_cond_f rfl ?_
        refine SP_skip ?_
        refine thenP_n ?_
        refine SP_seq ?_
        refine SP_seq ?_
        refine SP_region ?_
        refine SPL_y (y_move rfl) rfl ?_
        refine SPL_ifn (y_eql rfl rfl) rfl ?_ ?_
        · intro h12_1
          refine SPL_y (y_move rfl) rfl ?_
          refine SPL_gn rfl rfl rfl rfl ?_
          refine SPL_gn rfl rfl rfl rfl ?_
          refine SPL_gn rfl rfl rfl rfl ?_
          refine SPL_gn rfl rfl rfl rfl ?_
          refine SPL_gn rfl rfl rfl rfl ?_
          refine SPL_gn rfl rfl rfl rfl ?_
          refine SPL_gn rfl rfl rfl rfl ?_
          refine SPL_gn rfl rfl rfl rfl ?_
          refine SPL_gn rfl rfl rfl rfl ?_
          refine SPL_gn rfl rfl rfl rfl ?_
          refine SPL_y (y_pick_f rfl rfl) rfl ?_
          refine SPL_y (y_assign rfl) rfl ?_
          refine SPL_nil ?_
          refine thenP_n ?_
          refine SP_cond_f rfl ?_
          refine SP_skip ?_
          refine thenP_n ?_
          refine SP_seq ?_
          refine SP_seq ?_
          refine SP_region ?_
          have hncm : ¬ (r = 45 ∧ cutS src (pos + 1) (min (pos + 2) src.length) = [45]) := fun q => h12_1 q.1
          refine SPL_y (y_move rfl) rfl ?_
          refine SPL_one rfl (SP1_call (lx_letter r) Tryz.call119 rfl rfl (by repeat (first | exact Part.nil _ | (apply Part.cons; (first | exact P0 | exact P1 | exact P2 | exact P3 | exact P4 | exact P5 | exact P6 | exact P7 | exact P8 | exact P9 | exact P10 | exact P11 | exact P12 | exact P13 | exact P14 | exact P15 | exact P16 | exact P17 | exact P18 | exact P19 | exact P20 | exact P21 | exact P22 | exact P23)) | (apply Part.flat; simp only [List.cons_append, List.nil_append]) | (apply Part.nilc))) ?_)
          rintro v post H' ⟨rfl, rfl⟩ hH
          try simp only [List.cons_append, List.nil_append] at hH
          subst hH
          generalize hlt : letterM r = lt at *
          rcases lt with _ | _
          · refine SPL_y (y_assign rfl) rfl ?_
            refine SPL_nil ?_
            refine thenP_n ?_
            refine SP_cond_f rfl ?_
            refine SP_skip ?_
            refine thenP_n ?_
            refine SP_seq ?_
            refine SP_seq ?_
            refine SP_region ?_
            refine SPL_y (y_move rfl) rfl ?_
            refine SPL_ifn (y_geq rfl rfl) rfl ?_ ?_
            · intro h14_1
              refine SPL_y (y_move rfl) rfl ?_
              refine SPL_gn rfl rfl rfl rfl ?_
              refine SPL_gn rfl rfl rfl rfl ?_
              refine SPL_y (y_pick_f rfl rfl) rfl ?_
              refine SPL_y (y_assign rfl) rfl ?_
              refine SPL_nil ?_
              refine thenP_n ?_
              refine SP_cond_f rfl ?_
              refine SP_skip ?_
              refine thenP_n ?_
              refine SP_seq ?_
              refine SP_seq ?_
              refine SP_region ?_
              refine SPL_y (y_move rfl) rfl ?_
              refine SPL_if (y_eql rfl rfl) rfl ?_ ?_
              · intro h15_1
                refine SPL_y (y_assign rfl) rfl ?_
                refine SPL_nil ?_
                refine thenP_n ?_
                refine SP_cond_t rfl ?_
                refine SP_exit ?_
                refine thenP_exit ?_
                refine thenP_exit ?_
                refine inBlockP_miss rfl ?_
                refine thenP_exit ?_
                refine inBlockP_miss rfl ?_
                refine thenP_exit ?_
                refine inBlockP_miss rfl ?_
                refine thenP_exit ?_
                refine inBlockP_miss rfl ?_
                refine thenP_exit ?_
                refine inBlockP_hit ?_
                refine thenP_n ?_
                refine SP_seq ?_
                refine SP_seq ?_
                refine SP_region ?_
                have hrl := runF_le (p := untilP 34) (src := src) (i := pos + 1) (by omega)
                refine SPL_y (y_move rfl) rfl ?_
                refine SPL_y (y_move rfl) rfl ?_
                refine SPL_y (y_addE rfl rfl (c := ((pos + 1 : Nat) : Int)) (by omega) (by omega)) rfl ?_
                refine SPL_one rfl (SP1_call (lx_until src hs (pos + 1) 34) Tryz.call118 rfl rfl (by repeat (first | exact Part.nil _ | (apply Part.cons; (first | exact P0 | exact P1 | exact P2 | exact P3 | exact P4 | exact P5 | exact P6 | exact P7 | exact P8 | exact P9 | exact P10 | exact P11 | exact P12 | exact P13 | exact P14 | exact P15 | exact P16 | exact P17 | exact P18 | exact P19 | exact P20 | exact P21 | exact P22 | exact P23)) | (apply Part.flat; simp only [List.cons_append, List.nil_append]) | (apply Part.nilc))) ?_)
                rintro v post H' ⟨rfl, rfl⟩ hH
                try simp only [List.cons_append, List.nil_append] at hH
                subst hH
                refine SPL_y (y_addE rfl rfl (c := ((runF (untilP 34) src (pos + 1) + 1 : Nat) : Int)) (by omega) (by omega)) rfl ?_
                refine SPL_y (y_assign rfl) rfl ?_
                refine SPL_nil ?_
                refine thenP_n ?_
                refine SP_seq ?_
                refine SP_region ?_
                refine SPL_y (y_move rfl) rfl ?_
                refine SPL_y (y_move rfl) rfl ?_
                refine SPL_y (y_len_s Tryz.underlying9 rfl) rfl ?_
                refine SPL_ifn (y_leq rfl rfl) rfl ?_ ?_
                · intro h29_3
                  refine SPL_y (y_move rfl) rfl ?_
                  refine SPL_gn rfl rfl rfl rfl ?_
                  refine SPL_gn rfl rfl rfl rfl ?_
                  refine SPL_gn rfl rfl rfl rfl ?_
                  refine SPL_gn rfl rfl rfl rfl ?_
                  refine SPL_gn rfl rfl rfl rfl ?_
                  refine SPL_y (y_pick_f rfl rfl) rfl ?_
                  refine SPL_y (y_move rfl) rfl ?_
                  refine SPL_gn rfl rfl rfl rfl ?_
                  refine SPL_gn rfl rfl rfl rfl ?_
                  refine SPL_gn rfl rfl rfl rfl ?_
                  refine SPL_gn rfl rfl rfl rfl ?_
                  refine SPL_gn rfl rfl rfl rfl ?_
                  refine SPL_y (y_pick_f rfl rfl) rfl ?_
                  refine SPL_nil ?_
                  refine thenP_n ?_
                  refine SP_cond_f rfl ?_
                  refine SP_skip ?_
                  refine thenP_n ?_
                  refine SP_exit ?_
                  refine inBlockP_miss rfl ?_
                  refine thenP_exit ?_
                  refine inBlockP_miss rfl ?_
                  refine thenP_exit ?_
                  refine inBlockP_miss rfl ?_
                  refine thenP_exit ?_
                  refine inBlockP_hit ?_
                  refine thenP_n ?_
                  have hlr2 := hlr
                  unfold lexOne at hlr2
                  rw [if_neg (by omega), if_neg hncm, if_neg (by rw [hlt]; decide), if_neg (by omega), if_pos h15_1] at hlr2
                  exact Mid.intro ((runF (untilP 34) src (pos + 1) + 1, ⟨1, pos, [], 0, 14⟩)) (⟨by rw [hlr, ← hlr2, strAt]; dsimp only; rw [if_neg (fun q => by omega)], by dsimp only; omega⟩) (by repeat (first | exact Sub.nil _ | refine Sub.cons rfl ?_)) (by repeat (first | exact Part.nil _ | (apply Part.cons; (first | exact P0 | exact P1 | exact P2 | exact P3 | exact P4 | exact P5 | exact P6 | exact P7 | exact P8 | exact P9 | exact P10 | exact P11 | exact P12 | exact P13 | exact P14 | exact P15 | exact P16 | exact P17 | exact P18 | exact P19 | exact P20 | exact P21 | exact P22 | exact P23)) | (apply Part.flat; simp only [List.cons_append, List.nil_append]) | (apply Part.nilc)))
                intro h29_3
                refine SPL_y (y_move rfl) rfl ?_
                refine SPL_gy rfl rfl ?_
                refine SPL_y (y_move rfl) rfl ?_
                refine SPL_gy rfl rfl ?_
                refine SPL_y (y_move rfl) rfl ?_
                refine SPL_gy rfl rfl ?_
                refine SPL_y (y_subE rfl rfl (c := ((runF (untilP 34) src (pos + 1) + 1 - 1 : Nat) : Int)) (by omega) (by omega)) rfl ?_
                refine SPL_gy rfl rfl ?_
                have hgd : src.getD (runF (untilP 34) src (pos + 1) + 1 - 1) 0 = src[runF (untilP 34) src (pos + 1) + 1 - 1] := by rw [List.getD_eq_getElem?_getD, List.getElem?_eq_getElem (by omega)]; rfl
                refine SPL_y (y_idx_s Tryz.underlying9 rfl rfl (by omega) (getN (by omega))) rfl ?_
                refine SPL_gy rfl rfl ?_
                refine SPL_ifn (y_eql rfl rfl) rfl ?_ ?_
                · intro h29_9
                  refine SPL_y (y_pick_t rfl rfl) rfl ?_
                  refine SPL_y (y_move rfl) rfl ?_
                  refine SPL_gn rfl rfl rfl rfl ?_
                  refine SPL_gn rfl rfl rfl rfl ?_
                  refine SPL_gn rfl rfl rfl rfl ?_
                  refine SPL_gn rfl rfl rfl rfl ?_
                  refine SPL_gn rfl rfl rfl rfl ?_
                  refine SPL_y (y_pick_f rfl rfl) rfl ?_
                  refine SPL_nil ?_
                  refine thenP_n ?_
                  refine SP_cond_f rfl ?_
                  refine SP_skip ?_
                  refine thenP_n ?_
                  refine SP_exit ?_
                  refine inBlockP_miss rfl ?_
                  refine thenP_exit ?_
                  refine inBlockP_miss rfl ?_
                  refine thenP_exit ?_
                  refine inBlockP_miss rfl ?_
                  refine thenP_exit ?_
                  refine inBlockP_hit ?_
                  refine thenP_n ?_
                  have hlr2 := hlr
                  unfold lexOne at hlr2
                  rw [if_neg (by omega), if_neg hncm, if_neg (by rw [hlt]; decide), if_neg (by omega), if_pos h15_1] at hlr2
                  exact Mid.intro ((runF (untilP 34) src (pos + 1) + 1, ⟨1, pos, [], 0, 14⟩)) (⟨by rw [hlr, ← hlr2, strAt]; dsimp only; rw [if_neg (fun q => h29_9 (by rw [← hgd]; exact q.2.1))], by dsimp only; omega⟩) (by repeat (first | exact Sub.nil _ | refine Sub.cons rfl ?_)) (by repeat (first | exact Part.nil _ | (apply Part.cons; (first | exact P0 | exact P1 | exact P2 | exact P3 | exact P4 | exact P5 | exact P6 | exact P7 | exact P8 | exact P9 | exact P10 | exact P11 | exact P12 | exact P13 | exact P14 | exact P15 | exact P16 | exact P17 | exact P18 | exact P19 | exact P20 | exact P21 | exact P22 | exact P23)) | (apply Part.flat; simp only [List.cons_append, List.nil_append]) | (apply Part.nilc)))
                intro h29_9
                refine SPL_y (y_pick_t rfl rfl) rfl ?_
                refine SPL_y (y_move rfl) rfl ?_
                refine SPL_gy rfl rfl ?_
                refine SPL_y (y_move rfl) rfl ?_
                refine SPL_gy rfl rfl ?_
                refine SPL_y (y_move rfl) rfl ?_
                refine SPL_gy rfl rfl ?_
                refine SPL_y (y_sub rfl rfl (by omega)) rfl ?_
                refine SPL_gy rfl rfl ?_
                refine SPL_y (y_sub rfl rfl (by omega)) rfl ?_
                refine SPL_gy rfl rfl ?_
                refine SPL_ifn (y_leq rfl rfl) rfl ?_ ?_
                · intro h29_16
                  refine SPL_y (y_pick_t rfl rfl) rfl ?_
                  refine SPL_nil ?_
                  refine thenP_n ?_
                  refine SP_cond_f rfl ?_
                  refine SP_skip ?_
                  refine thenP_n ?_
                  refine SP_exit ?_
                  refine inBlockP_miss rfl ?_
                  refine thenP_exit ?_
                  refine inBlockP_miss rfl ?_
                  refine thenP_exit ?_
                  refine inBlockP_miss rfl ?_
                  refine thenP_exit ?_
                  refine inBlockP_hit ?_
                  refine thenP_n ?_
                  have hlr2 := hlr
                  unfold lexOne at hlr2
                  rw [if_neg (by omega), if_neg hncm, if_neg (by rw [hlt]; decide), if_neg (by omega), if_pos h15_1] at hlr2
                  exact Mid.intro ((runF (untilP 34) src (pos + 1) + 1, ⟨1, pos, [], 0, 14⟩)) (⟨by rw [hlr, ← hlr2, strAt]; dsimp only; rw [if_neg (fun q => by omega)], by dsimp only; omega⟩) (by repeat (first | exact Sub.nil _ | refine Sub.cons rfl ?_)) (by repeat (first | exact Part.nil _ | (apply Part.cons; (first | exact P0 | exact P1 | exact P2 | exact P3 | exact P4 | exact P5 | exact P6 | exact P7 | exact P8 | exact P9 | exact P10 | exact P11 | exact P12 | exact P13 | exact P14 | exact P15 | exact P16 | exact P17 | exact P18 | exact P19 | exact P20 | exact P21 | exact P22 | exact P23)) | (apply Part.flat; simp only [List.cons_append, List.nil_append]) | (apply Part.nilc)))
                intro h29_16
                refine SPL_y (y_pick_t rfl rfl) rfl ?_
                refine SPL_nil ?_
                refine thenP_n ?_
                refine SP_cond_t rfl ?_
                refine SP_seq ?_
                refine SP_region ?_
                refine SPL_y (y_fa fld_156_0 rfl) rfl ?_
                refine SPL_one rfl (SP1_store Tryz.sizeOf154 rfl rfl rfl (by first | exact U0 | exact U1 | exact U2 | exact U3 | exact U4 | exact U5 | exact U6 | exact U7 | exact U8 | exact U9 | exact U10 | exact U11 | exact U12 | exact U13 | exact U14 | exact U15 | exact U16 | exact U17 | exact U18 | exact U19 | exact U20 | exact U21 | exact U22 | exact U23) (by rfl) ?_)
                refine SPL_nil ?_
                refine thenP_n ?_
                refine SP_region ?_
                refine SPL_y (y_move rfl) rfl ?_
                refine SPL_y (y_move rfl) rfl ?_
                refine SPL_y (y_addE rfl rfl (c := ((pos + 1 : Nat) : Int)) (by omega) (by omega)) rfl ?_
                refine SPL_y (y_move rfl) rfl ?_
                refine SPL_y (y_subE rfl rfl (c := ((runF (untilP 34) src (pos + 1) + 1 - 1 : Nat) : Int)) (by omega) (by omega)) rfl ?_
                refine SPL_y (y_str_lh Tryz.underlying9 rfl rfl rfl (by omega)) rfl ?_
                refine SPL_y (y_fa fld_156_2 rfl) rfl ?_
                refine SPL_one rfl (SP1_store Tryz.sizeOf9 rfl rfl rfl (by first | exact U0 | exact U1 | exact U2 | exact U3 | exact U4 | exact U5 | exact U6 | exact U7 | exact U8 | exact U9 | exact U10 | exact U11 | exact U12 | exact U13 | exact U14 | exact U15 | exact U16 | exact U17 | exact U18 | exact U19 | exact U20 | exact U21 | exact U22 | exact U23) (by rfl) ?_)
                refine SPL_nil ?_
                refine thenP_n ?_
                refine SP_exit ?_
                refine inBlockP_miss rfl ?_
                refine thenP_exit ?_
                refine inBlockP_miss rfl ?_
                refine thenP_exit ?_
                refine inBlockP_miss rfl ?_
                refine thenP_exit ?_
                refine inBlockP_hit ?_
                refine thenP_n ?_
                have hlr2 := hlr
                unfold lexOne at hlr2
                rw [if_neg (by omega), if_neg hncm, if_neg (by rw [hlt]; decide), if_neg (by omega), if_pos h15_1] at hlr2
                exact Mid.intro ((runF (untilP 34) src (pos + 1) + 1, ⟨4, pos, cutS src (pos + 1) (runF (untilP 34) src (pos + 1) + 1 - 1), 0, 14⟩)) (⟨by rw [hlr, ← hlr2, strAt]; dsimp only; rw [if_pos ⟨by omega, by rw [hgd]; exact h29_9, by omega⟩], by dsimp only; omega⟩) (by repeat (first | exact Sub.nil _ | refine Sub.cons rfl ?_)) (by repeat (first | exact Part.nil _ | (apply Part.cons; (first | exact P0 | exact P1 | exact P2 | exact P3 | exact P4 | exact P5 | exact P6 | exact P7 | exact P8 | exact P9 | exact P10 | exact P11 | exact P12 | exact P13 | exact P14 | exact P15 | exact P16 | exact P17 | exact P18 | exact P19 | exact P20 | exact P21 | exact P22 | exact P23)) | (apply Part.flat; simp only [List.cons_append, List.nil_append]) | (apply Part.nilc)))
              intro h15_1
              refine SPL_y (y_assign rfl) rfl ?_
              refine SPL_nil ?_
              refine thenP_n ?_
              refine SP_cond_f rfl ?_
              refine SP_skip ?_
              refine thenP_n ?_
              refine SP_seq ?_
              refine SP_seq ?_
              refine SP_region ?_
              refine SPL_y (y_move rfl) rfl ?_
              refine SPL_if (y_eql rfl rfl) rfl ?_ ?_
              · intro h16_1
                refine SPL_y (y_move rfl) rfl ?_
                refine SPL_gn rfl rfl rfl rfl ?_
                refine SPL_gn rfl rfl rfl rfl ?_
                refine SPL_y (y_pick_t rfl rfl) rfl ?_
                refine SPL_y (y_assign rfl) rfl ?_
                refine SPL_nil ?_
                refine thenP_n ?_
                refine SP_cond_t rfl ?_
                refine SP_exit ?_
                refine thenP_exit ?_
                refine thenP_exit ?_
                refine inBlockP_miss rfl ?_
                refine thenP_exit ?_
                refine inBlockP_miss rfl ?_
                refine thenP_exit ?_
                refine inBlockP_miss rfl ?_
                refine thenP_exit ?_
                refine inBlockP_miss rfl ?_
                refine thenP_exit ?_
                refine inBlockP_miss rfl ?_
                refine thenP_exit ?_
                refine inBlockP_hit ?_
                refine thenP_n ?_
                refine SP_region ?_
                refine SPL_y (y_move rfl) rfl ?_
                refine SPL_y (y_conv Tryz.underlying21 Tryz.underlying5 rfl rfl) rfl ?_
                refine SPL_y (y_assign rfl) rfl ?_
                refine SPL_nil ?_
                refine inBlockP_n ?_
                refine thenP_n ?_
                have hls : lexOne src pos r = some (.tok (signAt src pos r).1 ⟨signM (signAt src pos r).2, pos, [], 0, 13⟩) := by unfold lexOne; rw [if_neg (by omega), if_neg hncm, hlt, if_neg (by decide), if_neg (by omega), if_neg h15_1]
                exact Mid.intro (IntKind.u8.wrap r) (⟨hls, by unfold twinOf; rw [if_pos (by omega)]⟩) (by repeat (first | exact Sub.nil _ | refine Sub.cons rfl ?_)) (by repeat (first | exact Part.nil _ | (apply Part.cons; (first | exact P0 | exact P1 | exact P2 | exact P3 | exact P4 | exact P5 | exact P6 | exact P7 | exact P8 | exact P9 | exact P10 | exact P11 | exact P12 | exact P13 | exact P14 | exact P15 | exact P16 | exact P17 | exact P18 | exact P19 | exact P20 | exact P21 | exact P22 | exact P23)) | (apply Part.flat; simp only [List.cons_append, List.nil_append]) | (apply Part.nilc)))
              intro h16_1
              refine SPL_y (y_move rfl) rfl ?_
              refine SPL_gy rfl rfl ?_
              refine SPL_y (y_move rfl) rfl ?_
              refine SPL_gy rfl rfl ?_
              refine SPL_if (y_eql rfl rfl) rfl ?_ ?_
              · intro h16_4
                refine SPL_y (y_pick_f rfl rfl) rfl ?_
                refine SPL_y (y_assign rfl) rfl ?_
                refine SPL_nil ?_
                refine thenP_n ?_
                refine SP_cond_t rfl ?_
                refine SP_exit ?_
                refine thenP_exit ?_
                refine thenP_exit ?_
                refine inBlockP_miss rfl ?_
                refine thenP_exit ?_
                refine inBlockP_miss rfl ?_
                refine thenP_exit ?_
                refine inBlockP_miss rfl ?_
                refine thenP_exit ?_
                refine inBlockP_miss rfl ?_
                refine thenP_exit ?_
                refine inBlockP_miss rfl ?_
                refine thenP_exit ?_
                refine inBlockP_hit ?_
                refine thenP_n ?_
                refine SP_region ?_
                refine SPL_y (y_move rfl) rfl ?_
                refine SPL_y (y_conv Tryz.underlying21 Tryz.underlying5 rfl rfl) rfl ?_
                refine SPL_y (y_assign rfl) rfl ?_
                refine SPL_nil ?_
                refine inBlockP_n ?_
                refine thenP_n ?_
                have hls : lexOne src pos r = some (.tok (signAt src pos r).1 ⟨signM (signAt src pos r).2, pos, [], 0, 13⟩) := by unfold lexOne; rw [if_neg (by omega), if_neg hncm, hlt, if_neg (by decide), if_neg (by omega), if_neg h15_1]
                exact Mid.intro (IntKind.u8.wrap r) (⟨hls, by unfold twinOf; rw [if_pos (by omega)]⟩) (by repeat (first | exact Sub.nil _ | refine Sub.cons rfl ?_)) (by repeat (first | exact Part.nil _ | (apply Part.cons; (first | exact P0 | exact P1 | exact P2 | exact P3 | exact P4 | exact P5 | exact P6 | exact P7 | exact P8 | exact P9 | exact P10 | exact P11 | exact P12 | exact P13 | exact P14 | exact P15 | exact P16 | exact P17 | exact P18 | exact P19 | exact P20 | exact P21 | exact P22 | exact P23)) | (apply Part.flat; simp only [List.cons_append, List.nil_append]) | (apply Part.nilc)))
              intro h16_4
              refine SPL_y (y_pick_f rfl rfl) rfl ?_
              refine SPL_y (y_assign rfl) rfl ?_
              refine SPL_nil ?_
              refine thenP_n ?_
              refine SP_cond_f rfl ?_
              refine SP_skip ?_
              refine thenP_n ?_
              refine SP_seq ?_
              refine SP_region ?_
              refine SPL_y (y_move rfl) rfl ?_
              refine SPL_if (y_eql rfl rfl) rfl ?_ ?_
              · intro h17_1
                refine SPL_y (y_move rfl) rfl ?_
                refine SPL_gn rfl rfl rfl rfl ?_
                refine SPL_gn rfl rfl rfl rfl ?_
                refine SPL_y (y_pick_t rfl rfl) rfl ?_
                refine SPL_y (y_move rfl) rfl ?_
                refine SPL_gn rfl rfl rfl rfl ?_
                refine SPL_gn rfl rfl rfl rfl ?_
                refine SPL_y (y_pick_t rfl rfl) rfl ?_
                refine SPL_y (y_move rfl) rfl ?_
                refine SPL_gn rfl rfl rfl rfl ?_
                refine SPL_gn rfl rfl rfl rfl ?_
                refine SPL_y (y_pick_t rfl rfl) rfl ?_
                refine SPL_y (y_assign rfl) rfl ?_
                refine SPL_nil ?_
                refine thenP_n ?_
                refine SP_cond_t rfl ?_
                refine SP_exit ?_
                refine thenP_exit ?_
                refine inBlockP_miss rfl ?_
                refine thenP_exit ?_
                refine inBlockP_miss rfl ?_
                refine thenP_exit ?_
                refine inBlockP_miss rfl ?_
                refine thenP_exit ?_
                refine inBlockP_miss rfl ?_
                refine thenP_exit ?_
                refine inBlockP_miss rfl ?_
                refine thenP_exit ?_
                refine inBlockP_miss rfl ?_
                refine thenP_exit ?_
                refine inBlockP_hit ?_
                refine thenP_n ?_
                have hls : lexOne src pos r = some (.tok (signAt src pos r).1 ⟨signM (signAt src pos r).2, pos, [], 0, 13⟩) := by unfold lexOne; rw [if_neg (by omega), if_neg hncm, hlt, if_neg (by decide), if_neg (by omega), if_neg h15_1]
                exact Mid.intro (61) (⟨hls, by unfold twinOf; rw [if_neg (by omega), if_pos (by omega)]⟩) (by repeat (first | exact Sub.nil _ | refine Sub.cons rfl ?_)) (by repeat (first | exact Part.nil _ | (apply Part.cons; (first | exact P0 | exact P1 | exact P2 | exact P3 | exact P4 | exact P5 | exact P6 | exact P7 | exact P8 | exact P9 | exact P10 | exact P11 | exact P12 | exact P13 | exact P14 | exact P15 | exact P16 | exact P17 | exact P18 | exact P19 | exact P20 | exact P21 | exact P22 | exact P23)) | (apply Part.flat; simp only [List.cons_append, List.nil_append]) | (apply Part.nilc)))
              intro h17_1
              refine SPL_y (y_move rfl) rfl ?_
              refine SPL_gy rfl rfl ?_
              refine SPL_y (y_move rfl) rfl ?_
              refine SPL_gy rfl rfl ?_
              refine SPL_if (y_eql rfl rfl) rfl ?_ ?_
              · intro h17_4
                refine SPL_y (y_pick_f rfl rfl) rfl ?_
                refine SPL_y (y_move rfl) rfl ?_
                refine SPL_gn rfl rfl rfl rfl ?_
                refine SPL_gn rfl rfl rfl rfl ?_
                refine SPL_y (y_pick_t rfl rfl) rfl ?_
                refine SPL_y (y_move rfl) rfl ?_
                refine SPL_gn rfl rfl rfl rfl ?_
                refine SPL_gn rfl rfl rfl rfl ?_
                refine SPL_y (y_pick_t rfl rfl) rfl ?_
                refine SPL_y (y_assign rfl) rfl ?_
                refine SPL_nil ?_
                refine thenP_n ?_
                refine SP_cond_t rfl ?_
                refine SP_exit ?_
                refine thenP_exit ?_
                refine inBlockP_miss rfl ?_
                refine thenP_exit ?_
                refine inBlockP_miss rfl ?_
                refine thenP_exit ?_
                refine inBlockP_miss rfl ?_
                refine thenP_exit ?_
                refine inBlockP_miss rfl ?_
                refine thenP_exit ?_
                refine inBlockP_miss rfl ?_
                refine thenP_exit ?_
                refine inBlockP_miss rfl ?_
                refine thenP_exit ?_
                refine inBlockP_hit ?_
                refine thenP_n ?_
                have hls : lexOne src pos r = some (.tok (signAt src pos r).1 ⟨signM (signAt src pos r).2, pos, [], 0, 13⟩) := by unfold lexOne; rw [if_neg (by omega), if_neg hncm, hlt, if_neg (by decide), if_neg (by omega), if_neg h15_1]
                exact Mid.intro (61) (⟨hls, by unfold twinOf; rw [if_neg (by omega), if_pos (by omega)]⟩) (by repeat (first | exact Sub.nil _ | refine Sub.cons rfl ?_)) (by repeat (first | exact Part.nil _ | (apply Part.cons; (first | exact P0 | exact P1 | exact P2 | exact P3 | exact P4 | exact P5 | exact P6 | exact P7 | exact P8 | exact P9 | exact P10 | exact P11 | exact P12 | exact P13 | exact P14 | exact P15 | exact P16 | exact P17 | exact P18 | exact P19 | exact P20 | exact P21 | exact P22 | exact P23)) | (apply Part.flat; simp only [List.cons_append, List.nil_append]) | (apply Part.nilc)))
              intro h17_4
              refine SPL_y (y_pick_f rfl rfl) rfl ?_
              refine SPL_y (y_move rfl) rfl ?_
              refine SPL_gy rfl rfl ?_
              refine SPL_y (y_move rfl) rfl ?_
              refine SPL_gy rfl rfl ?_
              refine SPL_if (y_eql rfl rfl) rfl ?_ ?_
              · intro h17_8
                refine SPL_y (y_pick_f rfl rfl) rfl ?_
                refine SPL_y (y_move rfl) rfl ?_
                refine SPL_gn rfl rfl rfl rfl ?_
                refine SPL_gn rfl rfl rfl rfl ?_
                refine SPL_y (y_pick_t rfl rfl) rfl ?_
                refine SPL_y (y_assign rfl) rfl ?_
                refine SPL_nil ?_
                refine thenP_n ?_
                refine SP_cond_t rfl ?_
                refine SP_exit ?_
                refine thenP_exit ?_
                refine inBlockP_miss rfl ?_
                refine thenP_exit ?_
                refine inBlockP_miss rfl ?_
                refine thenP_exit ?_
                refine inBlockP_miss rfl ?_
                refine thenP_exit ?_
                refine inBlockP_miss rfl ?_
                refine thenP_exit ?_
                refine inBlockP_miss rfl ?_
                refine thenP_exit ?_
                refine inBlockP_miss rfl ?_
                refine thenP_exit ?_
                refine inBlockP_hit ?_
                refine thenP_n ?_
                have hls : lexOne src pos r = some (.tok (signAt src pos r).1 ⟨signM (signAt src pos r).2, pos, [], 0, 13⟩) := by unfold lexOne; rw [if_neg (by omega), if_neg hncm, hlt, if_neg (by decide), if_neg (by omega), if_neg h15_1]
                exact Mid.intro (61) (⟨hls, by unfold twinOf; rw [if_neg (by omega), if_pos (by omega)]⟩) (by repeat (first | exact Sub.nil _ | refine Sub.cons rfl ?_)) (by repeat (first | exact Part.nil _ | (apply Part.cons; (first | exact P0 | exact P1 | exact P2 | exact P3 | exact P4 | exact P5 | exact P6 | exact P7 | exact P8 | exact P9 | exact P10 | exact P11 | exact P12 | exact P13 | exact P14 | exact P15 | exact P16 | exact P17 | exact P18 | exact P19 | exact P20 | exact P21 | exact P22 | exact P23)) | (apply Part.flat; simp only [List.cons_append, List.nil_append]) | (apply Part.nilc)))
              intro h17_8
              refine SPL_y (y_pick_f rfl rfl) rfl ?_
              refine SPL_y (y_move rfl) rfl ?_
              refine SPL_gy rfl rfl ?_
              refine SPL_y (y_move rfl) rfl ?_
              refine SPL_gy rfl rfl ?_
              refine SPL_if (y_eql rfl rfl) rfl ?_ ?_
              · intro h17_12
                refine SPL_y (y_pick_f rfl rfl) rfl ?_
                refine SPL_y (y_assign rfl) rfl ?_
                refine SPL_nil ?_
                refine thenP_n ?_
                refine SP_cond_t rfl ?_
                refine SP_exit ?_
                refine thenP_exit ?_
                refine inBlockP_miss rfl ?_
                refine thenP_exit ?_
                refine inBlockP_miss rfl ?_
                refine thenP_exit ?_
                refine inBlockP_miss rfl ?_
                refine thenP_exit ?_
                refine inBlockP_miss rfl ?_
                refine thenP_exit ?_
                refine inBlockP_miss rfl ?_
                refine thenP_exit ?_
                refine inBlockP_miss rfl ?_
                refine thenP_exit ?_
                refine inBlockP_hit ?_
                refine thenP_n ?_
                have hls : lexOne src pos r = some (.tok (signAt src pos r).1 ⟨signM (signAt src pos r).2, pos, [], 0, 13⟩) := by unfold lexOne; rw [if_neg (by omega), if_neg hncm, hlt, if_neg (by decide), if_neg (by omega), if_neg h15_1]
                exact Mid.intro (61) (⟨hls, by unfold twinOf; rw [if_neg (by omega), if_pos (by omega)]⟩) (by repeat (first | exact Sub.nil _ | refine Sub.cons rfl ?_)) (by repeat (first | exact Part.nil _ | (apply Part.cons; (first | exact P0 | exact P1 | exact P2 | exact P3 | exact P4 | exact P5 | exact P6 | exact P7 | exact P8 | exact P9 | exact P10 | exact P11 | exact P12 | exact P13 | exact P14 | exact P15 | exact P16 | exact P17 | exact P18 | exact P19 | exact P20 | exact P21 | exact P22 | exact P23)) | (apply Part.flat; simp only [List.cons_append, List.nil_append]) | (apply Part.nilc)))
              intro h17_12
              refine SPL_y (y_pick_f rfl rfl) rfl ?_
              refine SPL_y (y_assign rfl) rfl ?_
              refine SPL_nil ?_
              refine thenP_n ?_
              refine SP_cond_f rfl ?_
              refine SP_skip ?_
              refine thenP_n ?_
              refine SP_exit ?_
              refine inBlockP_miss rfl ?_
              refine thenP_exit ?_
              refine inBlockP_miss rfl ?_
              refine thenP_exit ?_
              refine inBlockP_miss rfl ?_
              refine thenP_exit ?_
              refine inBlockP_miss rfl ?_
              refine thenP_exit ?_
              refine inBlockP_miss rfl ?_
              refine thenP_exit ?_
              refine inBlockP_miss rfl ?_
              refine thenP_exit ?_
              refine inBlockP_miss rfl ?_
              refine thenP_exit ?_
              refine inBlockP_hit ?_
              refine thenP_n ?_
              have hls : lexOne src pos r = some (.tok (signAt src pos r).1 ⟨signM (signAt src pos r).2, pos, [], 0, 13⟩) := by unfold lexOne; rw [if_neg (by omega), if_neg hncm, hlt, if_neg (by decide), if_neg (by omega), if_neg h15_1]
              exact Mid.intro ((pos + 1, encR r)) (⟨hls, by unfold signAt twinOf; rw [if_neg (by omega), if_neg (by omega)], by dsimp only; omega⟩) (by repeat (first | exact Sub.nil _ | refine Sub.cons rfl ?_)) (by repeat (first | exact Part.nil _ | (apply Part.cons; (first | exact P0 | exact P1 | exact P2 | exact P3 | exact P4 | exact P5 | exact P6 | exact P7 | exact P8 | exact P9 | exact P10 | exact P11 | exact P12 | exact P13 | exact P14 | exact P15 | exact P16 | exact P17 | exact P18 | exact P19 | exact P20 | exact P21 | exact P22 | exact P23)) | (apply Part.flat; simp only [List.cons_append, List.nil_append]) | (apply Part.nilc)))
            intro h14_1
            refine SPL_y (y_move rfl) rfl ?_
            refine SPL_gy rfl rfl ?_
            refine SPL_y (y_move rfl) rfl ?_
            refine SPL_gy rfl rfl ?_
            refine SPL_if (y_leq rfl rfl) rfl ?_ ?_
            · intro h14_4
              refine SPL_y (y_pick_t rfl rfl) rfl ?_
              refine SPL_y (y_assign rfl) rfl ?_
              refine SPL_nil ?_
              refine thenP_n ?_
              refine SP_cond_t rfl ?_
              refine SP_exit ?_
              refine thenP_exit ?_
              refine thenP_exit ?_
              refine inBlockP_miss rfl ?_
              refine thenP_exit ?_
              refine inBlockP_miss rfl ?_
              refine thenP_exit ?_
              refine inBlockP_miss rfl ?_
              refine thenP_exit ?_
              refine inBlockP_hit ?_
              refine thenP_n ?_
              refine SP_seq ?_
              refine SP_seq ?_
              refine SP_region ?_
              have hnl := numberM_le (src := src) (i := pos) (by omega)
              have hlr2 := hlr
              unfold lexOne at hlr2
              rw [if_neg (by omega), if_neg hncm, if_neg (by rw [hlt]; decide), if_pos ⟨h14_1, h14_4⟩] at hlr2
              unfold numAt at hlr2
              obtain ⟨fb, er, hpm⟩ : ∃ fb er, parseM (cutS src pos (numberM src pos)) = some (fb, er) := by
                cases hq : parseM (cutS src pos (numberM src pos)) with
                | none => rw [hq] at hlr2; cases hlr2
                | some q => exact ⟨q.1, q.2, rfl⟩
              rw [hpm] at hlr2
              dsimp only at hlr2
              refine SPL_y (y_move rfl) rfl ?_
              refine SPL_y (y_move rfl) rfl ?_
              refine SPL_one rfl (SP1_call (lx_number src hs pos (by omega)) Tryz.call122 rfl rfl (by repeat (first | exact Part.nil _ | (apply Part.cons; (first | exact P0 | exact P1 | exact P2 | exact P3 | exact P4 | exact P5 | exact P6 | exact P7 | exact P8 | exact P9 | exact P10 | exact P11 | exact P12 | exact P13 | exact P14 | exact P15 | exact P16 | exact P17 | exact P18 | exact P19 | exact P20 | exact P21 | exact P22 | exact P23)) | (apply Part.flat; simp only [List.cons_append, List.nil_append]) | (apply Part.nilc))) ?_)
              rintro v post H' ⟨rfl, rfl⟩ hH
              try simp only [List.cons_append, List.nil_append] at hH
              subst hH
              refine SPL_y (y_assign rfl) rfl ?_
              refine SPL_nil ?_
              refine thenP_n ?_
              refine SP_seq ?_
              refine SP_draw 8 [(0, 0), (1, 0), (2, 0), (4, 0), (5, 0), (6, 0), (7, 0), (3, 1), (8, 3), (9, 0), (10, 0), (11, 0), (12, 0), (13, 3), (14, 0), (15, 3)] mixed (by kernel_rfl) (fun _ _ _ _ _ h => h) (Part.refl _) ?_
              refine SPO_p rfl (y_move rfl) rfl ?_
              refine SPO_p rfl (y_nil rfl) rfl ?_
              refine SPO_p rfl (y_fa fld_106_0 rfl) rfl ?_
              refine SPO_p rfl (y_move rfl) rfl ?_
              refine SPO_p rfl (y_move rfl) rfl ?_
              refine SPO_p rfl (y_move rfl) rfl ?_
              refine SPO_p rfl (y_str_lh Tryz.underlying9 rfl rfl rfl (by omega)) rfl ?_
              refine SPO_h rfl (y_load Tryz.isAgg37 rfl (by repeat (first | exact Cell.amid hpre rfl | exact Cell.head rfl | apply Cell.tail))) rfl ?_
              refine SPO_z (k := 0) rfl rfl (SP1_call (num_Parse nv (cutS src pos (numberM src pos)) (by unfold cutS; simp; omega) fb er hpm) Tryz.call123 rfl rfl (by repeat (first | exact Part.nil _ | (apply Part.cons; (first | exact P0 | exact P1 | exact P2 | exact P3 | exact P4 | exact P5 | exact P6 | exact P7 | exact P8 | exact P9 | exact P10 | exact P11 | exact P12 | exact P13 | exact P14 | exact P15 | exact P16 | exact P17 | exact P18 | exact P19 | exact P20 | exact P21 | exact P22 | exact P23)) | (apply Part.flat; simp only [List.cons_append, List.nil_append]) | (apply Part.nilc))) ?_)
              rintro v post H' ⟨rfl, rfl⟩ hH
              try simp only [List.cons_append, List.nil_append] at hH
              subst hH
              refine SPO_p rfl (y_move rfl) rfl ?_
              refine SPO_p rfl (y_ext rfl rfl) rfl ?_
              refine SPO_p rfl (y_ext rfl rfl) rfl ?_
              refine SPO_p rfl (y_fa fld_156_3 rfl) rfl ?_
              refine SPO_z (k := 0) rfl rfl (SP1_store Tryz.sizeOf40 rfl rfl rfl (by first | exact U0 | exact U1 | exact U2 | exact U3 | exact U4 | exact U5 | exact U6 | exact U7 | exact U8 | exact U9 | exact U10 | exact U11 | exact U12 | exact U13 | exact U14 | exact U15 | exact U16 | exact U17 | exact U18 | exact U19 | exact U20 | exact U21 | exact U22 | exact U23) (by rfl) ?_)
              refine SPO_p rfl (y_fa fld_156_4 rfl) rfl ?_
              refine SPO_z (k := 0) rfl rfl (SP1_store Tryz.sizeOf30 rfl rfl rfl (by first | exact U0 | exact U1 | exact U2 | exact U3 | exact U4 | exact U5 | exact U6 | exact U7 | exact U8 | exact U9 | exact U10 | exact U11 | exact U12 | exact U13 | exact U14 | exact U15 | exact U16 | exact U17 | exact U18 | exact U19 | exact U20 | exact U21 | exact U22 | exact U23) (by rfl) ?_)
              refine SPO_nil ?_
              refine thenP_n ?_
              refine SP_seq ?_
              refine SP_seq ?_
              refine SP_region ?_
              refine SPL_y (y_fa fld_156_4 rfl) rfl ?_
              refine SPL_y (y_load Tryz.isAgg30 rfl (by repeat (first | exact Cell.amid hpre rfl | exact Cell.head rfl | apply Cell.tail))) rfl ?_
              refine SPL_ifn (y_eql rfl rfl) rfl ?_ ?_
              · intro h25_2
                refine SPL_nil ?_
                refine thenP_n ?_
                refine SP_cond_f rfl ?_
                refine SP_skip ?_
                refine thenP_n ?_
                refine SP_region ?_
                refine SPL_y (y_fa fld_156_4 rfl) rfl ?_
                refine SPL_one rfl (SP1_store Tryz.sizeOf30 rfl rfl rfl (by first | exact U0 | exact U1 | exact U2 | exact U3 | exact U4 | exact U5 | exact U6 | exact U7 | exact U8 | exact U9 | exact U10 | exact U11 | exact U12 | exact U13 | exact U14 | exact U15 | exact U16 | exact U17 | exact U18 | exact U19 | exact U20 | exact U21 | exact U22 | exact U23) (by rfl) ?_)
                refine SPL_nil ?_
                refine thenP_n ?_
                refine SP_exit ?_
                refine inBlockP_miss rfl ?_
                refine thenP_exit ?_
                refine inBlockP_miss rfl ?_
                refine thenP_exit ?_
                refine inBlockP_miss rfl ?_
                refine thenP_exit ?_
                refine inBlockP_miss rfl ?_
                refine thenP_exit ?_
                refine inBlockP_hit ?_
                refine thenP_n ?_
                exact Mid.intro ((numberM src pos, ⟨1, pos, [], fb, 2⟩)) (⟨by rw [hlr, ← hlr2, if_neg h25_2], by dsimp only; omega⟩) (by repeat (first | exact Sub.nil _ | refine Sub.cons rfl ?_)) (by repeat (first | exact Part.nil _ | (apply Part.cons; (first | exact P0 | exact P1 | exact P2 | exact P3 | exact P4 | exact P5 | exact P6 | exact P7 | exact P8 | exact P9 | exact P10 | exact P11 | exact P12 | exact P13 | exact P14 | exact P15 | exact P16 | exact P17 | exact P18 | exact P19 | exact P20 | exact P21 | exact P22 | exact P23)) | (apply Part.flat; simp only [List.cons_append, List.nil_append]) | (apply Part.nilc)))
              intro h25_2
              refine SPL_nil ?_
              refine thenP_n ?_
              refine SP_cond_t rfl ?_
              refine SP_region ?_
              refine SPL_y (y_fa fld_156_0 rfl) rfl ?_
              refine SPL_one rfl (SP1_store Tryz.sizeOf154 rfl rfl rfl (by first | exact U0 | exact U1 | exact U2 | exact U3 | exact U4 | exact U5 | exact U6 | exact U7 | exact U8 | exact U9 | exact U10 | exact U11 | exact U12 | exact U13 | exact U14 | exact U15 | exact U16 | exact U17 | exact U18 | exact U19 | exact U20 | exact U21 | exact U22 | exact U23) (by rfl) ?_)
              refine SPL_nil ?_
              refine thenP_n ?_
              refine SP_region ?_
              refine SPL_y (y_fa fld_156_4 rfl) rfl ?_
              refine SPL_one rfl (SP1_store Tryz.sizeOf30 rfl rfl rfl (by first | exact U0 | exact U1 | exact U2 | exact U3 | exact U4 | exact U5 | exact U6 | exact U7 | exact U8 | exact U9 | exact U10 | exact U11 | exact U12 | exact U13 | exact U14 | exact U15 | exact U16 | exact U17 | exact U18 | exact U19 | exact U20 | exact U21 | exact U22 | exact U23) (by rfl) ?_)
              refine SPL_nil ?_
              refine thenP_n ?_
              refine SP_exit ?_
              refine inBlockP_miss rfl ?_
              refine thenP_exit ?_
              refine inBlockP_miss rfl ?_
              refine thenP_exit ?_
              refine inBlockP_miss rfl ?_
              refine thenP_exit ?_
              refine inBlockP_miss rfl ?_
              refine thenP_exit ?_
              refine inBlockP_hit ?_
              refine thenP_n ?_
              exact Mid.intro ((numberM src pos, ⟨3, pos, [], fb, 2⟩)) (⟨by rw [hlr, ← hlr2, if_pos h25_2], by dsimp only; omega⟩) (by repeat (first | exact Sub.nil _ | refine Sub.cons rfl ?_)) (by repeat (first | exact Part.nil _ | (apply Part.cons; (first | exact P0 | exact P1 | exact P2 | exact P3 | exact P4 | exact P5 | exact P6 | exact P7 | exact P8 | exact P9 | exact P10 | exact P11 | exact P12 | exact P13 | exact P14 | exact P15 | exact P16 | exact P17 | exact P18 | exact P19 | exact P20 | exact P21 | exact P22 | exact P23)) | (apply Part.flat; simp only [List.cons_append, List.nil_append]) | (apply Part.nilc)))
            intro h14_4
            refine SPL_y (y_pick_t rfl rfl) rfl ?_
            refine SPL_y (y_assign rfl) rfl ?_
            refine SPL_nil ?_
            refine thenP_n ?_
            refine SP_cond_f rfl ?_
            refine SP_skip ?_
            refine thenP_n ?_
            refine SP_seq ?_
            refine SP_seq ?_
            refine SP_region ?_
            refine SPL_y (y_move rfl) rfl ?_
            refine SPL_if (y_eql rfl rfl) rfl ?_ ?_
            · intro h15_1
              refine SPL_y (y_assign rfl) rfl ?_
              refine SPL_nil ?_
              refine thenP_n ?_
              refine SP_cond_t rfl ?_
              refine SP_exit ?_
              refine thenP_exit ?_
              refine thenP_exit ?_
              refine inBlockP_miss rfl ?_
              refine thenP_exit ?_
              refine inBlockP_miss rfl ?_
              refine thenP_exit ?_
              refine inBlockP_miss rfl ?_
              refine thenP_exit ?_
              refine inBlockP_miss rfl ?_
              refine thenP_exit ?_
              refine inBlockP_hit ?_
              refine thenP_n ?_
              refine SP_seq ?_
              refine SP_seq ?_
              refine SP_region ?_
              have hrl := runF_le (p := untilP 34) (src := src) (i := pos + 1) (by omega)
              refine SPL_y (y_move rfl) rfl ?_
              refine SPL_y (y_move rfl) rfl ?_
              refine SPL_y (y_addE rfl rfl (c := ((pos + 1 : Nat) : Int)) (by omega) (by omega)) rfl ?_
              refine SPL_one rfl (SP1_call (lx_until src hs (pos + 1) 34) Tryz.call118 rfl rfl (by repeat (first | exact Part.nil _ | (apply Part.cons; (first | exact P0 | exact P1 | exact P2 | exact P3 | exact P4 | exact P5 | exact P6 | exact P7 | exact P8 | exact P9 | exact P10 | exact P11 | exact P12 | exact P13 | exact P14 | exact P15 | exact P16 | exact P17 | exact P18 | exact P19 | exact P20 | exact P21 | exact P22 | exact P23)) | (apply Part.flat; simp only [List.cons_append, List.nil_append]) | (apply Part.nilc))) ?_)
              rintro v post H' ⟨rfl, rfl⟩ hH
              try simp only [List.cons_append, List.nil_append] at hH
              subst hH
              refine SPL_y (y_addE rfl rfl (c := ((runF (untilP 34) src (pos + 1) + 1 : Nat) : Int)) (by omega) (by omega)) rfl ?_
              refine SPL_y (y_assign rfl) rfl ?_
              refine SPL_nil ?_
              refine thenP_n ?_
              refine SP_seq ?_
              refine SP_region ?_
              refine SPL_y (y_move rfl) rfl ?_
              refine SPL_y (y_move rfl) rfl ?_
              refine SPL_y (y_len_s Tryz.underlying9 rfl) rfl ?_
              refine SPL_ifn (y_leq rfl rfl) rfl ?_ ?_
              · intro h29_3
                refine SPL_y (y_move rfl) rfl ?_
                refine SPL_gn rfl rfl rfl rfl ?_
                refine SPL_gn rfl rfl rfl rfl ?_
                refine SPL_gn rfl rfl rfl rfl ?_
                refine SPL_gn rfl rfl rfl rfl ?_
                refine SPL_gn rfl rfl rfl rfl ?_
                refine SPL_y (y_pick_f rfl rfl) rfl ?_
                refine SPL_y (y_move rfl) rfl ?_
                refine SPL_gn rfl rfl rfl rfl ?_
                refine SPL_gn rfl rfl rfl rfl ?_
                refine SPL_gn rfl rfl rfl rfl ?_
                refine SPL_gn rfl rfl rfl rfl ?_
                refine SPL_gn rfl rfl rfl rfl ?_
                refine SPL_y (y_pick_f rfl rfl) rfl ?_
                refine SPL_nil ?_
                refine thenP_n ?_
                refine SP_cond_f rfl ?_
                refine SP_skip ?_
                refine thenP_n ?_
                refine SP_exit ?_
                refine inBlockP_miss rfl ?_
                refine thenP_exit ?_
                refine inBlockP_miss rfl ?_
                refine thenP_exit ?_
                refine inBlockP_miss rfl ?_
                refine thenP_exit ?_
                refine inBlockP_hit ?_
                refine thenP_n ?_
                have hlr2 := hlr
                unfold lexOne at hlr2
                rw [if_neg (by omega), if_neg hncm, if_neg (by rw [hlt]; decide), if_neg (by omega), if_pos h15_1] at hlr2
                exact Mid.intro ((runF (untilP 34) src (pos + 1) + 1, ⟨1, pos, [], 0, 14⟩)) (⟨by rw [hlr, ← hlr2, strAt]; dsimp only; rw [if_neg (fun q => by omega)], by dsimp only; omega⟩) (by repeat (first | exact Sub.nil _ | refine Sub.cons rfl ?_)) (by repeat (first | exact Part.nil _ | (apply Part.cons; (first | exact P0 | exact P1 | exact P2 | exact P3 | exact P4 | exact P5 | exact P6 | exact P7 | exact P8 | exact P9 | exact P10 | exact P11 | exact P12 | exact P13 | exact P14 | exact P15 | exact P16 | exact P17 | exact P18 | exact P19 | exact P20 | exact P21 | exact P22 | exact P23)) | (apply Part.flat; simp only [List.cons_append, List.nil_append]) | (apply Part.nilc)))
              intro h29_3
              refine SPL_y (y_move rfl) rfl ?_
              refine SPL_gy rfl rfl ?_
              refine SPL_y (y_move rfl) rfl ?_
              refine SPL_gy rfl rfl ?_
              refine SPL_y (y_move rfl) rfl ?_
              refine SPL_gy rfl rfl ?_
              refine SPL_y (y_subE rfl rfl (c := ((runF (untilP 34) src (pos + 1) + 1 - 1 : Nat) : Int)) (by omega) (by omega)) rfl ?_
              refine SPL_gy rfl rfl ?_
              have hgd : src.getD (runF (untilP 34) src (pos + 1) + 1 - 1) 0 = src[runF (untilP 34) src (pos + 1) + 1 - 1] := by rw [List.getD_eq_getElem?_getD, List.getElem?_eq_getElem (by omega)]; rfl
              refine SPL_y (y_idx_s Tryz.underlying9 rfl rfl (by omega) (getN (by omega))) rfl ?_
              refine SPL_gy rfl rfl ?_
              refine SPL_ifn (y_eql rfl rfl) rfl ?_ ?_
              · intro h29_9
                refine SPL_y (y_pick_t rfl rfl) rfl ?_
                refine SPL_y (y_move rfl) rfl ?_
                refine SPL_gn rfl rfl rfl rfl ?_
                refine SPL_gn rfl rfl rfl rfl ?_
                refine SPL_gn rfl rfl rfl rfl ?_
                refine SPL_gn rfl rfl rfl rfl ?_
                refine SPL_gn rfl rfl rfl rfl ?_
                refine SPL_y (y_pick_f rfl rfl) rfl ?_
                refine SPL_nil ?_
                refine thenP_n ?_
                refine SP_cond_f rfl ?_
                refine SP_skip ?_
                refine thenP_n ?_
                refine SP_exit ?_
                refine inBlockP_miss rfl ?_
                refine thenP_exit ?_
                refine inBlockP_miss rfl ?_
                refine thenP_exit ?_
                refine inBlockP_miss rfl ?_
                refine thenP_exit ?_
                refine inBlockP_hit ?_
                refine thenP_n ?_
                have hlr2 := hlr
                unfold lexOne at hlr2
                rw [if_neg (by omega), if_neg hncm, if_neg (by rw [hlt]; decide), if_neg (by omega), if_pos h15_1] at hlr2
                exact Mid.intro ((runF (untilP 34) src (pos + 1) + 1, ⟨1, pos, [], 0, 14⟩)) (⟨by rw [hlr, ← hlr2, strAt]; dsimp only; rw [if_neg (fun q => h29_9 (by rw [← hgd]; exact q.2.1))], by dsimp only; omega⟩) (by repeat (first | exact Sub.nil _ | refine Sub.cons rfl ?_)) (by repeat (first | exact Part.nil _ | (apply Part.cons; (first | exact P0 | exact P1 | exact P2 | exact P3 | exact P4 | exact P5 | exact P6 | exact P7 | exact P8 | exact P9 | exact P10 | exact P11 | exact P12 | exact P13 | exact P14 | exact P15 | exact P16 | exact P17 | exact P18 | exact P19 | exact P20 | exact P21 | exact P22 | exact P23)) | (apply Part.flat; simp only [List.cons_append, List.nil_append]) | (apply Part.nilc)))
              intro h29_9
              refine SPL_y (y_pick_t rfl rfl) rfl ?_
              refine SPL_y (y_move rfl) rfl ?_
              refine SPL_gy rfl rfl ?_
              refine SPL_y (y_move rfl) rfl ?_
              refine SPL_gy rfl rfl ?_
              refine SPL_y (y_move rfl) rfl ?_
              refine SPL_gy rfl rfl ?_
              refine SPL_y (y_sub rfl rfl (by omega)) rfl ?_
              refine SPL_gy rfl rfl ?_
              refine SPL_y (y_sub rfl rfl (by omega)) rfl ?_
              refine SPL_gy rfl rfl ?_
              refine SPL_ifn (y_leq rfl rfl) rfl ?_ ?_
              · intro h29_16
                refine SPL_y (y_pick_t rfl rfl) rfl ?_
                refine SPL_nil ?_
                refine thenP_n ?_
                refine SP_cond_f rfl ?_
                refine SP_skip ?_
                refine thenP_n ?_
                refine SP_exit ?_
                refine inBlockP_miss rfl ?_
                refine thenP_exit ?_
                refine inBlockP_miss rfl ?_
                refine thenP_exit ?_
                refine inBlockP_miss rfl ?_
                refine thenP_exit ?_
                refine inBlockP_hit ?_
                refine thenP_n ?_
                have hlr2 := hlr
                unfold lexOne at hlr2
                rw [if_neg (by omega), if_neg hncm, if_neg (by rw [hlt]; decide), if_neg (by omega), if_pos h15_1] at hlr2
                exact Mid.intro ((runF (untilP 34) src (pos + 1) + 1, ⟨1, pos, [], 0, 14⟩)) (⟨by rw [hlr, ← hlr2, strAt]; dsimp only; rw [if_neg (fun q => by omega)], by dsimp only; omega⟩) (by repeat (first | exact Sub.nil _ | refine Sub.cons rfl ?_)) (by repeat (first | exact Part.nil _ | (apply Part.cons; (first | exact P0 | exact P1 | exact P2 | exact P3 | exact P4 | exact P5 | exact P6 | exact P7 | exact P8 | exact P9 | exact P10 | exact P11 | exact P12 | exact P13 | exact P14 | exact P15 | exact P16 | exact P17 | exact P18 | exact P19 | exact P20 | exact P21 | exact P22 | exact P23)) | (apply Part.flat; simp only [List.cons_append, List.nil_append]) | (apply Part.nilc)))
              intro h29_16
              refine SPL_y (y_pick_t rfl rfl) rfl ?_
              refine SPL_nil ?_
              refine thenP_n ?_
              refine SP_cond_t rfl ?_
              refine SP_seq ?_
              refine SP_region ?_
              refine SPL_y (y_fa fld_156_0 rfl) rfl ?_
              refine SPL_one rfl (SP1_store Tryz.sizeOf154 rfl rfl rfl (by first | exact U0 | exact U1 | exact U2 | exact U3 | exact U4 | exact U5 | exact U6 | exact U7 | exact U8 | exact U9 | exact U10 | exact U11 | exact U12 | exact U13 | exact U14 | exact U15 | exact U16 | exact U17 | exact U18 | exact U19 | exact U20 | exact U21 | exact U22 | exact U23) (by rfl) ?_)
              refine SPL_nil ?_
              refine thenP_n ?_
              refine SP_region ?_
              refine SPL_y (y_move rfl) rfl ?_
              refine SPL_y (y_move rfl) rfl ?_
              refine SPL_y (y_addE rfl rfl (c := ((pos + 1 : Nat) : Int)) (by omega) (by omega)) rfl ?_
              refine SPL_y (y_move rfl) rfl ?_
              refine SPL_y (y_subE rfl rfl (c := ((runF (untilP 34) src (pos + 1) + 1 - 1 : Nat) : Int)) (by omega) (by omega)) rfl ?_
              refine SPL_y (y_str_lh Tryz.underlying9 rfl rfl rfl (by omega)) rfl ?_
              refine SPL_y (y_fa fld_156_2 rfl) rfl ?_
              refine SPL_one rfl (SP1_store Tryz.sizeOf9 rfl rfl rfl (by first | exact U0 | exact U1 | exact U2 | exact U3 | exact U4 | exact U5 | exact U6 | exact U7 | exact U8 | exact U9 | exact U10 | exact U11 | exact U12 | exact U13 | exact U14 | exact U15 | exact U16 | exact U17 | exact U18 | exact U19 | exact U20 | exact U21 | exact U22 | exact U23) (by rfl) ?_)
              refine SPL_nil ?_
              refine thenP_n ?_
              refine SP_exit ?_
              refine inBlockP_miss rfl ?_
              refine thenP_exit ?_
              refine inBlockP_miss rfl ?_
              refine thenP_exit ?_
              refine inBlockP_miss rfl ?_
              refine thenP_exit ?_
              refine inBlockP_hit ?_
              refine thenP_n ?_
              have hlr2 := hlr
              unfold lexOne at hlr2
              rw [if_neg (by omega), if_neg hncm, if_neg (by rw [hlt]; decide), if_neg (by omega), if_pos h15_1] at hlr2
              exact Mid.intro ((runF (untilP 34) src (pos + 1) + 1, ⟨4, pos, cutS src (pos + 1) (runF (untilP 34) src (pos + 1) + 1 - 1), 0, 14⟩)) (⟨by rw [hlr, ← hlr2, strAt]; dsimp only; rw [if_pos ⟨by omega, by rw [hgd]; exact h29_9, by omega⟩], by dsimp only; omega⟩) (by repeat (first | exact Sub.nil _ | refine Sub.cons rfl ?_)) (by repeat (first | exact Part.nil _ | (apply Part.cons; (first | exact P0 | exact P1 | exact P2 | exact P3 | exact P4 | exact P5 | exact P6 | exact P7 | exact P8 | exact P9 | exact P10 | exact P11 | exact P12 | exact P13 | exact P14 | exact P15 | exact P16 | exact P17 | exact P18 | exact P19 | exact P20 | exact P21 | exact P22 | exact P23)) | (apply Part.flat; simp only [List.cons_append, List.nil_append]) | (apply Part.nilc)))
            intro h15_1
            refine SPL_y (y_assign rfl) rfl ?_
            refine SPL_nil ?_
            refine thenP_n ?_
            refine SP_cond_f rfl ?_
            refine SP_skip ?_
            refine thenP_n ?_
            refine SP_seq ?_
            refine SP_seq ?_
            refine SP_region ?_
            refine SPL_y (y_move rfl) rfl ?_
            refine SPL_if (y_eql rfl rfl) rfl ?_ ?_
            · intro h16_1
              refine SPL_y (y_move rfl) rfl ?_
              refine SPL_gn rfl rfl rfl rfl ?_
              refine SPL_gn rfl rfl rfl rfl ?_
              refine SPL_y (y_pick_t rfl rfl) rfl ?_
              refine SPL_y (y_assign rfl) rfl ?_
              refine SPL_nil ?_
              refine thenP_n ?_
              refine SP_cond_t rfl ?_
              refine SP_exit ?_
              refine thenP_exit ?_
              refine thenP_exit ?_
              refine inBlockP_miss rfl ?_
              refine thenP_exit ?_
              refine inBlockP_miss rfl ?_
              refine thenP_exit ?_
              refine inBlockP_miss rfl ?_
              refine thenP_exit ?_
              refine inBlockP_miss rfl ?_
              refine thenP_exit ?_
              refine inBlockP_miss rfl ?_
              refine thenP_exit ?_
              refine inBlockP_hit ?_
              refine thenP_n ?_
              refine SP_region ?_
              refine SPL_y (y_move rfl) rfl ?_
              refine SPL_y (y_conv Tryz.underlying21 Tryz.underlying5 rfl rfl) rfl ?_
              refine SPL_y (y_assign rfl) rfl ?_
              refine SPL_nil ?_
              refine inBlockP_n ?_
              refine thenP_n ?_
              have hls : lexOne src pos r = some (.tok (signAt src pos r).1 ⟨signM (signAt src pos r).2, pos, [], 0, 13⟩) := by unfold lexOne; rw [if_neg (by omega), if_neg hncm, hlt, if_neg (by decide), if_neg (by omega), if_neg h15_1]
              exact Mid.intro (IntKind.u8.wrap r) (⟨hls, by unfold twinOf; rw [if_pos (by omega)]⟩) (by repeat (first | exact Sub.nil _ | refine Sub.cons rfl ?_)) (by repeat (first | exact Part.nil _ | (apply Part.cons; (first | exact P0 | exact P1 | exact P2 | exact P3 | exact P4 | exact P5 | exact P6 | exact P7 | exact P8 | exact P9 | exact P10 | exact P11 | exact P12 | exact P13 | exact P14 | exact P15 | exact P16 | exact P17 | exact P18 | exact P19 | exact P20 | exact P21 | exact P22 | exact P23)) | (apply Part.flat; simp only [List.cons_append, List.nil_append]) | (apply Part.nilc)))
            intro h16_1
            refine SPL_y (y_move rfl) rfl ?_
            refine SPL_gy rfl rfl ?_
            refine SPL_y (y_move rfl) rfl ?_
            refine SPL_gy rfl rfl ?_
            refine SPL_if (y_eql rfl rfl) rfl ?_ ?_
            · intro h16_4
              refine SPL_y (y_pick_f rfl rfl) rfl ?_
              refine SPL_y (y_assign rfl) rfl ?_
              refine SPL_nil ?_
              refine thenP_n ?_
              refine SP_cond_t rfl ?_
              refine SP_exit ?_
              refine thenP_exit ?_
              refine thenP_exit ?_
              refine inBlockP_miss rfl ?_
              refine thenP_exit ?_
              refine inBlockP_miss rfl ?_
              refine thenP_exit ?_
              refine inBlockP_miss rfl ?_
              refine thenP_exit ?_
              refine inBlockP_miss rfl ?_
              refine thenP_exit ?_
              refine inBlockP_miss rfl ?_
              refine thenP_exit ?_
              refine inBlockP_hit ?_
              refine thenP_n ?_
              refine SP_region ?_
              refine SPL_y (y_move rfl) rfl ?_
              refine SPL_y (y_conv Tryz.underlying21 Tryz.underlying5 rfl rfl) rfl ?_
              refine SPL_y (y_assign rfl) rfl ?_
              refine SPL_nil ?_
              refine inBlockP_n ?_
              refine thenP_n ?_
              have hls : lexOne src pos r = some (.tok (signAt src pos r).1 ⟨signM (signAt src pos r).2, pos, [], 0, 13⟩) := by unfold lexOne; rw [if_neg (by omega), if_neg hncm, hlt, if_neg (by decide), if_neg (by omega), if_neg h15_1]
              exact Mid.intro (IntKind.u8.wrap r) (⟨hls, by unfold twinOf; rw [if_pos (by omega)]⟩) (by repeat (first | exact Sub.nil _ | refine Sub.cons rfl ?_)) (by repeat (first | exact Part.nil _ | (apply Part.cons; (first | exact P0 | exact P1 | exact P2 | exact P3 | exact P4 | exact P5 | exact P6 | exact P7 | exact P8 | exact P9 | exact P10 | exact P11 | exact P12 | exact P13 | exact P14 | exact P15 | exact P16 | exact P17 | exact P18 | exact P19 | exact P20 | exact P21 | exact P22 | exact P23)) | (apply Part.flat; simp only [List.cons_append, List.nil_append]) | (apply Part.nilc)))
            intro h16_4
            refine SPL_y (y_pick_f rfl rfl) rfl ?_
            refine SPL_y (y_assign rfl) rfl ?_
            refine SPL_nil ?_
            refine thenP_n ?_
            refine SP_cond_f rfl ?_
            refine SP_skip ?_
            refine thenP_n ?_
            refine SP_seq ?_
            refine SP_region ?_
            refine SPL_y (y_move rfl) rfl ?_
            refine SPL_if (y_eql rfl rfl) rfl ?_ ?_
            · intro h17_1
              refine SPL_y (y_move rfl) rfl ?_
              refine SPL_gn rfl rfl rfl rfl ?_
              refine SPL_gn rfl rfl rfl rfl ?_
              refine SPL_y (y_pick_t rfl rfl) rfl ?_
              refine SPL_y (y_move rfl) rfl ?_
              refine SPL_gn rfl rfl rfl rfl ?_
              refine SPL_gn rfl rfl rfl rfl ?_
              refine SPL_y (y_pick_t rfl rfl) rfl ?_
              refine SPL_y (y_move rfl) rfl ?_
              refine SPL_gn rfl rfl rfl rfl ?_
              refine SPL_gn rfl rfl rfl rfl ?_
              refine SPL_y (y_pick_t rfl rfl) rfl ?_
              refine SPL_y (y_assign rfl) rfl ?_
              refine SPL_nil ?_
              refine thenP_n ?_
              refine SP_cond_t rfl ?_
              refine SP_exit ?_
              refine thenP_exit ?_
              refine inBlockP_miss rfl ?_
              refine thenP_exit ?_
              refine inBlockP_miss rfl ?_
              refine thenP_exit ?_
              refine inBlockP_miss rfl ?_
              refine thenP_exit ?_
              refine inBlockP_miss rfl ?_
              refine thenP_exit ?_
              refine inBlockP_miss rfl ?_
              refine thenP_exit ?_
              refine inBlockP_miss rfl ?_
              refine thenP_exit ?_
              refine inBlockP_hit ?_
              refine thenP_n ?_
              have hls : lexOne src pos r = some (.tok (signAt src pos r).1 ⟨signM (signAt src pos r).2, pos, [], 0, 13⟩) := by unfold lexOne; rw [if_neg (by omega), if_neg hncm, hlt, if_neg (by decide), if_neg (by omega), if_neg h15_1]
              exact Mid.intro (61) (⟨hls, by unfold twinOf; rw [if_neg (by omega), if_pos (by omega)]⟩) (by repeat (first | exact Sub.nil _ | refine Sub.cons rfl ?_)) (by repeat (first | exact Part.nil _ | (apply Part.cons; (first | exact P0 | exact P1 | exact P2 | exact P3 | exact P4 | exact P5 | exact P6 | exact P7 | exact P8 | exact P9 | exact P10 | exact P11 | exact P12 | exact P13 | exact P14 | exact P15 | exact P16 | exact P17 | exact P18 | exact P19 | exact P20 | exact P21 | exact P22 | exact P23)) | (apply Part.flat; simp only [List.cons_append, List.nil_append]) | (apply Part.nilc)))
            intro h17_1
            refine SPL_y (y_move rfl) rfl ?_
            refine SPL_gy rfl rfl ?_
            refine SPL_y (y_move rfl) rfl ?_
            refine SPL_gy rfl rfl ?_
            refine SPL_if (y_eql rfl rfl) rfl ?_ ?_
            · intro h17_4
              refine SPL_y (y_pick_f rfl rfl) rfl ?_
              refine SPL_y (y_move rfl) rfl ?_
              refine SPL_gn rfl rfl rfl rfl ?_
              refine SPL_gn rfl rfl rfl rfl ?_
              refine SPL_y (y_pick_t rfl rfl) rfl ?_
              refine SPL_y (y_move rfl) rfl ?_
              refine SPL_gn rfl rfl rfl rfl ?_
              refine SPL_gn rfl rfl rfl rfl ?_
              refine SPL_y (y_pick_t rfl rfl) rfl ?_
              refine SPL_y (y_assign rfl) rfl ?_
              refine SPL_nil ?_
              refine thenP_n ?_
              refine SP_cond_t rfl ?_
              refine SP_exit ?_
              refine thenP_exit ?_
              refine inBlockP_miss rfl ?_
              refine thenP_exit ?_
              refine inBlockP_miss rfl ?_
              refine thenP_exit ?_
              refine inBlockP_miss rfl ?_
              refine thenP_exit ?_
              refine inBlockP_miss rfl ?_
              refine thenP_exit ?_
              refine inBlockP_miss rfl ?_
              refine thenP_exit ?_
              refine inBlockP_miss rfl ?_
              refine thenP_exit ?_
              refine inBlockP_hit ?_
              refine thenP_n ?_
              have hls : lexOne src pos r = some (.tok (signAt src pos r).1 ⟨signM (signAt src pos r).2, pos, [], 0, 13⟩) := by unfold lexOne; rw [if_neg (by omega), if_neg hncm, hlt, if_neg (by decide), if_neg (by omega), if_neg h15_1]
              exact Mid.intro (61) (⟨hls, by unfold twinOf; rw [if_neg (by omega), if_pos (by omega)]⟩) (by repeat (first | exact Sub.nil _ | refine Sub.cons rfl ?_)) (by repeat (first | exact Part.nil _ | (apply Part.cons; (first | exact P0 | exact P1 | exact P2 | exact P3 | exact P4 | exact P5 | exact P6 | exact P7 | exact P8 | exact P9 | exact P10 | exact P11 | exact P12 | exact P13 | exact P14 | exact P15 | exact P16 | exact P17 | exact P18 | exact P19 | exact P20 | exact P21 | exact P22 | exact P23)) | (apply Part.flat; simp only [List.cons_append, List.nil_append]) | (apply Part.nilc)))
            intro h17_4
            refine SPL_y (y_pick_f rfl rfl) rfl ?_
            refine SPL_y (y_move rfl) rfl ?_
            refine SPL_gy rfl rfl ?_
            refine SPL_y (y_move rfl) rfl ?_
            refine SPL_gy rfl rfl ?_
            refine SPL_if (y_eql rfl rfl) rfl ?_ ?_
            · intro h17_8
              refine SPL_y (y_pick_f rfl rfl) rfl ?_
              refine SPL_y (y_move rfl) rfl ?_
              refine SPL_gn rfl rfl rfl rfl ?_
              refine SPL_gn rfl rfl rfl rfl ?_
              refine SPL_y (y_pick_t rfl rfl) rfl ?_
              refine SPL_y (y_assign rfl) rfl ?_
              refine SPL_nil ?_
              refine thenP_n ?_
              refine SP_cond_t rfl ?_
              refine SP_exit ?_
              refine thenP_exit ?_
              refine inBlockP_miss rfl ?_
              refine thenP_exit ?_
              refine inBlockP_miss rfl ?_
              refine thenP_exit ?_
              refine inBlockP_miss rfl ?_
              refine thenP_exit ?_
              refine inBlockP_miss rfl ?_
              refine thenP_exit ?_
              refine inBlockP_miss rfl ?_
              refine thenP_exit ?_
              refine inBlockP_miss rfl ?_
              refine thenP_exit ?_
              refine inBlockP_hit ?_
              refine thenP_n ?_
              have hls : lexOne src pos r = some (.tok (signAt src pos r).1 ⟨signM (signAt src pos r).2, pos, [], 0, 13⟩) := by unfold lexOne; rw [if_neg (by omega), if_neg hncm, hlt, if_neg (by decide), if_neg (by omega), if_neg h15_1]
              exact Mid.intro (61) (⟨hls, by unfold twinOf; rw [if_neg (by omega), if_pos (by omega)]⟩) (by repeat (first | exact Sub.nil _ | refine Sub.cons rfl ?_)) (by repeat (first | exact Part.nil _ | (apply Part.cons; (first | exact P0 | exact P1 | exact P2 | exact P3 | exact P4 | exact P5 | exact P6 | exact P7 | exact P8 | exact P9 | exact P10 | exact P11 | exact P12 | exact P13 | exact P14 | exact P15 | exact P16 | exact P17 | exact P18 | exact P19 | exact P20 | exact P21 | exact P22 | exact P23)) | (apply Part.flat; simp only [List.cons_append, List.nil_append]) | (apply Part.nilc)))
            intro h17_8
            refine SPL_y (y_pick_f rfl rfl) rfl ?_
            refine SPL_y (y_move rfl) rfl ?_
            refine SPL_gy rfl rfl ?_
            refine SPL_y (y_move rfl) rfl ?_
            refine SPL_gy rfl rfl ?_
            refine SPL_if (y_eql rfl rfl) rfl ?_ ?_
            · intro h17_12
              refine SPL_y (y_pick_f rfl rfl) rfl ?_
              refine SPL_y (y_assign rfl) rfl ?_
              refine SPL_nil ?_
              refine thenP_n ?_
              refine SP_cond_t rfl ?_
              refine SP_exit ?_
              refine thenP_exit ?_
              refine inBlockP_miss rfl ?_
              refine thenP_exit ?_
              refine inBlockP_miss rfl ?_
              refine thenP_exit ?_
              refine inBlockP_miss rfl ?_
              refine thenP_exit ?_
              refine inBlockP_miss rfl ?_
              refine thenP_exit ?_
              refine inBlockP_miss rfl ?_
              refine thenP_exit ?_
              refine inBlockP_miss rfl ?_
              refine thenP_exit ?_
              refine inBlockP_hit ?_
              refine thenP_n ?_
              have hls : lexOne src pos r = some (.tok (signAt src pos r).1 ⟨signM (signAt src pos r).2, pos, [], 0, 13⟩) := by unfold lexOne; rw [if_neg (by omega), if_neg hncm, hlt, if_neg (by decide), if_neg (by omega), if_neg h15_1]
              exact Mid.intro (61) (⟨hls, by unfold twinOf; rw [if_neg (by omega), if_pos (by omega)]⟩) (by repeat (first | exact Sub.nil _ | refine Sub.cons rfl ?_)) (by repeat (first | exact Part.nil _ | (apply Part.cons; (first | exact P0 | exact P1 | exact P2 | exact P3 | exact P4 | exact P5 | exact P6 | exact P7 | exact P8 | exact P9 | exact P10 | exact P11 | exact P12 | exact P13 | exact P14 | exact P15 | exact P16 | exact P17 | exact P18 | exact P19 | exact P20 | exact P21 | exact P22 | exact P23)) | (apply Part.flat; simp only [List.cons_append, List.nil_append]) | (apply Part.nilc)))
            intro h17_12
            refine SPL_y (y_pick_f rfl rfl) rfl ?_
            refine SPL_y (y_assign rfl) rfl ?_
            refine SPL_nil ?_
            refine thenP_n ?_
            refine SP_cond_f rfl ?_
            refine SP_skip ?_
            refine thenP_n ?_
            refine SP_exit ?_
            refine inBlockP_miss rfl ?_
            refine thenP_exit ?_
            refine inBlockP_miss rfl ?_
            refine thenP_exit ?_
            refine inBlockP_miss rfl ?_
            refine thenP_exit ?_
            refine inBlockP_miss rfl ?_
            refine thenP_exit ?_
            refine inBlockP_miss rfl ?_
            refine thenP_exit ?_
            refine inBlockP_miss rfl ?_
            refine thenP_exit ?_
            refine inBlockP_miss rfl ?_
            refine thenP_exit ?_
            refine inBlockP_hit ?_
            refine thenP_n ?_
            have hls : lexOne src pos r = some (.tok (signAt src pos r).1 ⟨signM (signAt src pos r).2, pos, [], 0, 13⟩) := by unfold lexOne; rw [if_neg (by omega), if_neg hncm, hlt, if_neg (by decide), if_neg (by omega), if_neg h15_1]
            exact Mid.intro ((pos + 1, encR r)) (⟨hls, by unfold signAt twinOf; rw [if_neg (by omega), if_neg (by omega)], by dsimp only; omega⟩) (by repeat (first | exact Sub.nil _ | refine Sub.cons rfl ?_)) (by repeat (first | exact Part.nil _ | (apply Part.cons; (first | exact P0 | exact P1 | exact P2 | exact P3 | exact P4 | exact P5 | exact P6 | exact P7 | exact P8 | exact P9 | exact P10 | exact P11 | exact P12 | exact P13 | exact P14 | exact P15 | exact P16 | exact P17 | exact P18 | exact P19 | exact P20 | exact P21 | exact P22 | exact P23)) | (apply Part.flat; simp only [List.cons_append, List.nil_append]) | (apply Part.nilc)))
          · refine SPL_y (y_assign rfl) rfl ?_
            refine SPL_nil ?_
            refine thenP_n ?_
            refine SP_cond_t rfl ?_
            refine SP_exit ?_
            refine thenP_exit ?_
            refine thenP_exit ?_
            refine inBlockP_miss rfl ?_
            refine thenP_exit ?_
            refine inBlockP_miss rfl ?_
            refine thenP_exit ?_
            refine inBlockP_hit ?_
            refine thenP_n ?_
            refine SP_seq ?_
            refine SP_seq ?_
            refine SP_region ?_
            have hrl := runF_le (p := wordM) (src := src) (i := pos) (by omega)
            refine SPL_y (y_move rfl) rfl ?_
            refine SPL_y (y_move rfl) rfl ?_
            refine SPL_one rfl (SP1_call (lx_words src hs pos) Tryz.call120 rfl rfl (by repeat (first | exact Part.nil _ | (apply Part.cons; (first | exact P0 | exact P1 | exact P2 | exact P3 | exact P4 | exact P5 | exact P6 | exact P7 | exact P8 | exact P9 | exact P10 | exact P11 | exact P12 | exact P13 | exact P14 | exact P15 | exact P16 | exact P17 | exact P18 | exact P19 | exact P20 | exact P21 | exact P22 | exact P23)) | (apply Part.flat; simp only [List.cons_append, List.nil_append]) | (apply Part.nilc))) ?_)
            rintro v post H' ⟨rfl, rfl⟩ hH
            try simp only [List.cons_append, List.nil_append] at hH
            subst hH
            refine SPL_y (y_assign rfl) rfl ?_
            refine SPL_nil ?_
            refine thenP_n ?_
            refine SP_seq ?_
            refine SP_region ?_
            refine SPL_y (y_move rfl) rfl ?_
            refine SPL_y (y_move rfl) rfl ?_
            refine SPL_y (y_sub rfl rfl (by omega)) rfl ?_
            refine SPL_ifn (y_leq rfl rfl) rfl ?_ ?_
            · intro h20_3
              refine SPL_nil ?_
              refine thenP_n ?_
              refine SP_cond_f rfl ?_
              refine SP_skip ?_
              refine thenP_n ?_
              refine SP_exit ?_
              refine inBlockP_miss rfl ?_
              refine thenP_exit ?_
              refine inBlockP_miss rfl ?_
              refine thenP_exit ?_
              refine inBlockP_miss rfl ?_
              refine thenP_exit ?_
              refine inBlockP_miss rfl ?_
              refine thenP_exit ?_
              refine inBlockP_miss rfl ?_
              refine thenP_exit ?_
              refine inBlockP_hit ?_
              refine thenP_n ?_
              have hlr2 := hlr
              unfold lexOne at hlr2
              rw [if_neg (by omega), if_neg hncm, if_pos hlt] at hlr2
              exact Mid.intro ((runF wordM src pos, ⟨1, pos, [], 0, 14⟩)) (⟨by rw [hlr, ← hlr2, wordAt, if_neg h20_3], by dsimp only; omega⟩) (by repeat (first | exact Sub.nil _ | refine Sub.cons rfl ?_)) (by repeat (first | exact Part.nil _ | (apply Part.cons; (first | exact P0 | exact P1 | exact P2 | exact P3 | exact P4 | exact P5 | exact P6 | exact P7 | exact P8 | exact P9 | exact P10 | exact P11 | exact P12 | exact P13 | exact P14 | exact P15 | exact P16 | exact P17 | exact P18 | exact P19 | exact P20 | exact P21 | exact P22 | exact P23)) | (apply Part.flat; simp only [List.cons_append, List.nil_append]) | (apply Part.nilc)))
            intro h20_3
            refine SPL_nil ?_
            refine thenP_n ?_
            refine SP_cond_t rfl ?_
            refine SP_seq ?_
            refine SP_region ?_
            refine SPL_y (y_move rfl) rfl ?_
            refine SPL_y (y_move rfl) rfl ?_
            refine SPL_y (y_move rfl) rfl ?_
            refine SPL_y (y_str_lh Tryz.underlying9 rfl rfl rfl (by omega)) rfl ?_
            refine SPL_y (y_fa fld_156_2 rfl) rfl ?_
            refine SPL_one rfl (SP1_store Tryz.sizeOf9 rfl rfl rfl (by first | exact U0 | exact U1 | exact U2 | exact U3 | exact U4 | exact U5 | exact U6 | exact U7 | exact U8 | exact U9 | exact U10 | exact U11 | exact U12 | exact U13 | exact U14 | exact U15 | exact U16 | exact U17 | exact U18 | exact U19 | exact U20 | exact U21 | exact U22 | exact U23) (by rfl) ?_)
            refine SPL_nil ?_
            refine thenP_n ?_
            refine SP_region ?_
            refine SPL_y (y_fa fld_156_2 rfl) rfl ?_
            refine SPL_y (y_load Tryz.isAgg9 rfl (by repeat (first | exact Cell.amid hpre rfl | exact Cell.head rfl | apply Cell.tail))) rfl ?_
            refine SPL_one rfl (SP1_call (lx_keyword gs hG (cutS src pos (runF wordM src pos))) Tryz.call121 rfl rfl (by repeat (first | exact Part.nil _ | (apply Part.cons; (first | exact P0 | exact P1 | exact P2 | exact P3 | exact P4 | exact P5 | exact P6 | exact P7 | exact P8 | exact P9 | exact P10 | exact P11 | exact P12 | exact P13 | exact P14 | exact P15 | exact P16 | exact P17 | exact P18 | exact P19 | exact P20 | exact P21 | exact P22 | exact P23)) | (apply Part.flat; simp only [List.cons_append, List.nil_append]) | (apply Part.nilc))) ?_)
            rintro v post H' ⟨rfl, rfl⟩ hH
            try simp only [List.cons_append, List.nil_append] at hH
            subst hH
            refine SPL_y (y_fa fld_156_0 rfl) rfl ?_
            refine SPL_one rfl (SP1_store Tryz.sizeOf154 rfl rfl rfl (by first | exact U0 | exact U1 | exact U2 | exact U3 | exact U4 | exact U5 | exact U6 | exact U7 | exact U8 | exact U9 | exact U10 | exact U11 | exact U12 | exact U13 | exact U14 | exact U15 | exact U16 | exact U17 | exact U18 | exact U19 | exact U20 | exact U21 | exact U22 | exact U23) (by rfl) ?_)
            refine SPL_nil ?_
            refine thenP_n ?_
            refine SP_exit ?_
            refine inBlockP_miss rfl ?_
            refine thenP_exit ?_
            refine inBlockP_miss rfl ?_
            refine thenP_exit ?_
            refine inBlockP_miss rfl ?_
            refine thenP_exit ?_
            refine inBlockP_miss rfl ?_
            refine thenP_exit ?_
            refine inBlockP_miss rfl ?_
            refine thenP_exit ?_
            refine inBlockP_hit ?_
            refine thenP_n ?_
            have hlr2 := hlr
            unfold lexOne at hlr2
            rw [if_neg (by omega), if_neg hncm, if_pos hlt] at hlr2
            exact Mid.intro ((runF wordM src pos, ⟨keywordM (cutS src pos (runF wordM src pos)), pos, cutS src pos (runF wordM src pos), 0, 14⟩)) (⟨by rw [hlr, ← hlr2, wordAt, if_pos h20_3], by dsimp only; omega⟩) (by repeat (first | exact Sub.nil _ | refine Sub.cons rfl ?_)) (by repeat (first | exact Part.nil _ | (apply Part.cons; (first | exact P0 | exact P1 | exact P2 | exact P3 | exact P4 | exact P5 | exact P6 | exact P7 | exact P8 | exact P9 | exact P10 | exact P11 | exact P12 | exact P13 | exact P14 | exact P15 | exact P16 | exact P17 | exact P18 | exact P19 | exact P20 | exact P21 | exact P22 | exact P23)) | (apply Part.flat; simp only [List.cons_append, List.nil_append]) | (apply Part.nilc)))
        intro h12_1
        refine SPL_y (y_move rfl) rfl ?_
        refine SPL_gy rfl rfl ?_
        refine SPL_y (y_move rfl) rfl ?_
        refine SPL_gy rfl rfl ?_
        refine SPL_y (y_move rfl) rfl ?_
        refine SPL_gy rfl rfl ?_
        refine SPL_y (y_addE rfl rfl (c := ((pos + 1 : Nat) : Int)) (by omega) (by omega)) rfl ?_
        refine SPL_gy rfl rfl ?_
        refine SPL_y (y_move rfl) rfl ?_
        refine SPL_gy rfl rfl ?_
        refine SPL_y (y_addE rfl rfl (c := ((pos + 2 : Nat) : Int)) (by omega) (by omega)) rfl ?_
        refine SPL_gy rfl rfl ?_
        refine SPL_y (y_move rfl) rfl ?_
        refine SPL_gy rfl rfl ?_
        refine SPL_y (y_len_s Tryz.underlying9 rfl) rfl ?_
        refine SPL_gy rfl rfl ?_
        refine SPL_y (y_minE rfl rfl (show (if ((src.length : Nat) : Int) < ((pos + 2 : Nat) : Int) then ((src.length : Nat) : Int) else ((pos + 2 : Nat) : Int)) = ((min (pos + 2) src.length : Nat) : Int) by split <;> omega)) rfl ?_
        refine SPL_gy rfl rfl ?_
        refine SPL_y (y_str_lh Tryz.underlying9 rfl rfl rfl (by omega)) rfl ?_
        refine SPL_gy rfl rfl ?_
        refine SPL_if (y_seq rfl rfl) rfl ?_ ?_
        · intro h12_12
          refine SPL_y (y_pick_t rfl rfl) rfl ?_
          refine SPL_y (y_assign rfl) rfl ?_
          refine SPL_nil ?_
          refine thenP_n ?_
          refine SP_cond_t rfl ?_
          refine SP_exit ?_
          refine thenP_exit ?_
          refine thenP_exit ?_
          refine inBlockP_miss rfl ?_
          refine thenP_exit ?_
          refine inBlockP_hit ?_
          refine thenP_n ?_
          refine SP_seq ?_
          refine SP_seq ?_
          refine SP_region ?_
          refine SPL_y (y_move rfl) rfl ?_
          refine SPL_y (y_move rfl) rfl ?_
          refine SPL_one rfl (SP1_call (lx_until src hs pos 10) Tryz.call118 rfl rfl (by repeat (first | exact Part.nil _ | (apply Part.cons; (first | exact P0 | exact P1 | exact P2 | exact P3 | exact P4 | exact P5 | exact P6 | exact P7 | exact P8 | exact P9 | exact P10 | exact P11 | exact P12 | exact P13 | exact P14 | exact P15 | exact P16 | exact P17 | exact P18 | exact P19 | exact P20 | exact P21 | exact P22 | exact P23)) | (apply Part.flat; simp only [List.cons_append, List.nil_append]) | (apply Part.nilc))) ?_)
          rintro v post H' ⟨rfl, rfl⟩ hH
          try simp only [List.cons_append, List.nil_append] at hH
          subst hH
          refine SPL_y (y_assign rfl) rfl ?_
          refine SPL_nil ?_
          refine thenP_n ?_
          refine SP_exit ?_
          refine thenP_exit ?_
          refine inBlockP_miss rfl ?_
          refine thenP_exit ?_
          refine inBlockP_miss rfl ?_
          refine thenP_exit ?_
          refine inBlockP_miss rfl ?_
          refine thenP_exit ?_
          refine inBlockP_miss rfl ?_
          refine thenP_exit ?_
          refine inBlockP_miss rfl ?_
          refine thenP_exit ?_
          refine inBlockP_miss rfl ?_
          refine thenP_exit ?_
          refine inBlockP_miss rfl ?_
          refine thenP_exit ?_
          refine inBlockP_hit ?_
          refine thenP_n ?_
          have hrl := runF_le (p := untilP 10) (src := src) (i := pos) (by omega)
          have hlr2 := hlr
          unfold lexOne at hlr2
          rw [if_neg (by omega), if_pos ⟨h12_1, h12_12⟩] at hlr2
          cases hlr2
          rw [hlr] at hsc
          have hnext : scanL n src (pos + (runeAt src pos).2) (runF (untilP 10) src pos) toks = some out := hsc
          exact Again.intro ((n, pos + (runeAt src pos).2, (runF (untilP 10) src pos), toks, a1, c1, s1, toks.length)) (⟨h1, hnext, by dsimp only; omega, rfl⟩) (by dsimp only; omega) (by repeat (first | exact Sub.nil _ | refine Sub.cons rfl ?_)) (by repeat (first | exact Part.nil _ | (apply Part.cons; (first | exact P0 | exact P1 | exact P2 | exact P3 | exact P4 | exact P5 | exact P6 | exact P7 | exact P8 | exact P9 | exact P10 | exact P11 | exact P12 | exact P13 | exact P14 | exact P15 | exact P16 | exact P17 | exact P18 | exact P19 | exact P20 | exact P21 | exact P22 | exact P23)) | (apply Part.flat; simp only [List.cons_append, List.nil_append]) | (apply Part.nilc)))
        intro h12_12
        refine SPL_y (y_pick_t rfl rfl) rfl ?_
        refine SPL_y (y_assign rfl) rfl ?_
        refine SPL_nil ?_
        refine thenP_n ?_
        refine SP_cond_f rfl ?_
        refine SP_skip ?_
        refine thenP_n ?_
        refine SP_seq ?_
        refine SP_seq ?_
        refine SP_region ?_
        have hncm : ¬ (r = 45 ∧ cutS src (pos + 1) (min (pos + 2) src.length) = [45]) := fun q => h12_12 q.2
        refine SPL_y (y_move rfl) rfl ?_
        refine SPL_one rfl (SP1_call (lx_letter r) Tryz.call119 rfl rfl (by repeat (first | exact Part.nil _ | (apply Part.cons; (first | exact P0 | exact P1 | exact P2 | exact P3 | exact P4 | exact P5 | exact P6 | exact P7 | exact P8 | exact P9 | exact P10 | exact P11 | exact P12 | exact P13 | exact P14 | exact P15 | exact P16 | exact P17 | exact P18 | exact P19 | exact P20 | exact P21 | exact P22 | exact P23)) | (apply Part.flat; simp only [List.cons_append, List.nil_append]) | (apply Part.nilc))) ?_)
        rintro v post H' ⟨rfl, rfl⟩ hH
        try simp only [List.cons_append, List.nil_append] at hH
        subst hH
        generalize hlt : letterM r = lt at *
        rcases lt with _ | _
        · refine SPL_y (y_assign rfl) rfl ?_
          refine SPL_nil ?_
          refine thenP_n ?_
          refine SP_cond_f rfl ?_
          refine SP_skip ?_
          refine thenP_n ?_
          refine SP_seq ?_
          refine SP_seq ?_
          refine SP_region ?_
          refine SPL_y (y_move rfl) rfl ?_
          refine SPL_ifn (y_geq rfl rfl) rfl ?_ ?_
          · intro h14_1
            refine SPL_y (y_move rfl) rfl ?_
            refine SPL_gn rfl rfl rfl rfl ?_
            refine SPL_gn rfl rfl rfl rfl ?_
            refine SPL_y (y_pick_f rfl rfl) rfl ?_
            refine SPL_y (y_assign rfl) rfl ?_
            refine SPL_nil ?_
            refine thenP_n ?_
            refine SP_cond_f rfl ?_
            refine SP_skip ?_
            refine thenP_n ?_
            refine SP_seq ?_
            refine SP_seq ?_
            refine SP_region ?_
            refine SPL_y (y_move rfl) rfl ?_
            refine SPL_if (y_eql rfl rfl) rfl ?_ ?_
            · intro h15_1
              refine SPL_y (y_assign rfl) rfl ?_
              refine SPL_nil ?_
              refine thenP_n ?_
              refine SP_cond_t rfl ?_
              refine SP_exit ?_
              refine thenP_exit ?_
              refine thenP_exit ?_
              refine inBlockP_miss rfl ?_
              refine thenP_exit ?_
              refine inBlockP_miss rfl ?_
              refine thenP_exit ?_
              refine inBlockP_miss rfl ?_
              refine thenP_exit ?_
              refine inBlockP_miss rfl ?_
              refine thenP_exit ?_
              refine inBlockP_hit ?_
              refine thenP_n ?_
              refine SP_seq ?_
              refine SP_seq ?_
              refine SP_region ?_
              have hrl := runF_le (p := untilP 34) (src := src) (i := pos + 1) (by omega)
              refine SPL_y (y_move rfl) rfl ?_
              refine SPL_y (y_move rfl) rfl ?_
              refine SPL_y (y_addE rfl rfl (c := ((pos + 1 : Nat) : Int)) (by omega) (by omega)) rfl ?_
              refine SPL_one rfl (SP1_call (lx_until src hs (pos + 1) 34) Tryz.call118 rfl rfl (by repeat (first | exact Part.nil _ | (apply Part.cons; (first | exact P0 | exact P1 | exact P2 | exact P3 | exact P4 | exact P5 | exact P6 | exact P7 | exact P8 | exact P9 | exact P10 | exact P11 | exact P12 | exact P13 | exact P14 | exact P15 | exact P16 | exact P17 | exact P18 | exact P19 | exact P20 | exact P21 | exact P22 | exact P23)) | (apply Part.flat; simp only [List.cons_append, List.nil_append]) | (apply Part.nilc))) ?_)
              rintro v post H' ⟨rfl, rfl⟩ hH
              try simp only [List.cons_append, List.nil_append] at hH
              subst hH
              refine SPL_y (y_addE rfl rfl (c := ((runF (untilP 34) src (pos + 1) + 1 : Nat) : Int)) (by omega) (by omega)) rfl ?_
              refine SPL_y (y_assign rfl) rfl ?_
              refine SPL_nil ?_
              refine thenP_n ?_
              refine SP_seq ?_
              refine SP_region ?_
              refine SPL_y (y_move rfl) rfl ?_
              refine SPL_y (y_move rfl) rfl ?_
              refine SPL_y (y_len_s Tryz.underlying9 rfl) rfl ?_
              refine SPL_ifn (y_leq rfl rfl) rfl ?_ ?_
              · intro h29_3
                refine SPL_y (y_move rfl) rfl ?_
                refine SPL_gn rfl rfl rfl rfl ?_
                refine SPL_gn rfl rfl rfl rfl ?_
                refine SPL_gn rfl rfl rfl rfl ?_
                refine SPL_gn rfl rfl rfl rfl ?_
                refine SPL_gn rfl rfl rfl rfl ?_
                refine SPL_y (y_pick_f rfl rfl) rfl ?_
                refine SPL_y (y_move rfl) rfl ?_
                refine SPL_gn rfl rfl rfl rfl ?_
                refine SPL_gn rfl rfl rfl rfl ?_
                refine SPL_gn rfl rfl rfl rfl ?_
                refine SPL_gn rfl rfl rfl rfl ?_
                refine SPL_gn rfl rfl rfl rfl ?_
                refine SPL_y (y_pick_f rfl rfl) rfl ?_
                refine SPL_nil ?_
                refine thenP_n ?_
                refine SP_cond_f rfl ?_
                refine SP_skip ?_
                refine thenP_n ?_
                refine SP_exit ?_
                refine inBlockP_miss rfl ?_
                refine thenP_exit ?_
                refine inBlockP_miss rfl ?_
                refine thenP_exit ?_
                refine inBlockP_miss rfl ?_
                refine thenP_exit ?_
                refine inBlockP_hit ?_
                refine thenP_n ?_
                have hlr2 := hlr
                unfold lexOne at hlr2
                rw [if_neg (by omega), if_neg hncm, if_neg (by rw [hlt]; decide), if_neg (by omega), if_pos h15_1] at hlr2
                exact Mid.intro ((runF (untilP 34) src (pos + 1) + 1, ⟨1, pos, [], 0, 14⟩)) (⟨by rw [hlr, ← hlr2, strAt]; dsimp only; rw [if_neg (fun q => by omega)], by dsimp only; omega⟩) (by repeat (first | exact Sub.nil _ | refine Sub.cons rfl ?_)) (by repeat (first | exact Part.nil _ | (apply Part.cons; (first | exact P0 | exact P1 | exact P2 | exact P3 | exact P4 | exact P5 | exact P6 | exact P7 | exact P8 | exact P9 | exact P10 | exact P11 | exact P12 | exact P13 | exact P14 | exact P15 | exact P16 | exact P17 | exact P18 | exact P19 | exact P20 | exact P21 | exact P22 | exact P23)) | (apply Part.flat; simp only [List.cons_append, List.nil_append]) | (apply Part.nilc)))
              intro h29_3
              refine SPL_y (y_move rfl) rfl ?_
              refine SPL_gy rfl rfl ?_
              refine SPL_y (y_move rfl) rfl ?_
              refine SPL_gy rfl rfl ?_
              refine SPL_y (y_move rfl) rfl ?_
              refine SPL_gy rfl rfl ?_
              refine SPL_y (y_subE rfl rfl (c := ((runF (untilP 34) src (pos + 1) + 1 - 1 : Nat) : Int)) (by omega) (by omega)) rfl ?_
              refine SPL_gy rfl rfl ?_
              have hgd : src.getD (runF (untilP 34) src (pos + 1) + 1 - 1) 0 = src[runF (untilP 34) src (pos + 1) + 1 - 1] := by rw [List.getD_eq_getElem?_getD, List.getElem?_eq_getElem (by omega)]; rfl
              refine SPL_y (y_idx_s Tryz.underlying9 rfl rfl (by omega) (getN (by omega))) rfl ?_
              refine SPL_gy rfl rfl ?_
              refine SPL_ifn (y_eql rfl rfl) rfl ?_ ?_
              · intro h29_9
                refine SPL_y (y_pick_t rfl rfl) rfl ?_
                refine SPL_y (y_move rfl) rfl ?_
                refine SPL_gn rfl rfl rfl rfl ?_
                refine SPL_gn rfl rfl rfl rfl ?_
                refine SPL_gn rfl rfl rfl rfl ?_
                refine SPL_gn rfl rfl rfl rfl ?_
                refine SPL_gn rfl rfl rfl rfl ?_
                refine SPL_y (y_pick_f rfl rfl) rfl ?_
                refine SPL_nil ?_
                refine thenP_n ?_
                refine SP_cond_f rfl ?_
                refine SP_skip ?_
                refine thenP_n ?_
                refine SP_exit ?_
                refine inBlockP_miss rfl ?_
                refine thenP_exit ?_
                refine inBlockP_miss rfl ?_
                refine thenP_exit ?_
                refine inBlockP_miss rfl ?_
                refine thenP_exit ?_
                refine inBlockP_hit ?_
                refine thenP_n ?_
                have hlr2 := hlr
                unfold lexOne at hlr2
                rw [if_neg (by omega), if_neg hncm, if_neg (by rw [hlt]; decide), if_neg (by omega), if_pos h15_1] at hlr2
                exact Mid.intro ((runF (untilP 34) src (pos + 1) + 1, ⟨1, pos, [], 0, 14⟩)) (⟨by rw [hlr, ← hlr2, strAt]; dsimp only; rw [if_neg (fun q => h29_9 (by rw [← hgd]; exact q.2.1))], by dsimp only; omega⟩) (by repeat (first | exact Sub.nil _ | refine Sub.cons rfl ?_)) (by repeat (first | exact Part.nil _ | (apply Part.cons; (first | exact P0 | exact P1 | exact P2 | exact P3 | exact P4 | exact P5 | exact P6 | exact P7 | exact P8 | exact P9 | exact P10 | exact P11 | exact P12 | exact P13 | exact P14 | exact P15 | exact P16 | exact P17 | exact P18 | exact P19 | exact P20 | exact P21 | exact P22 | exact P23)) | (apply Part.flat; simp only [List.cons_append, List.nil_append]) | (apply Part.nilc)))
              intro h29_9
              refine SPL_y (y_pick_t rfl rfl) rfl ?_
              refine SPL_y (y_move rfl) rfl ?_
              refine SPL_gy rfl rfl ?_
              refine SPL_y (y_move rfl) rfl ?_
              refine SPL_gy rfl rfl ?_
              refine SPL_y (y_move rfl) rfl ?_
              refine SPL_gy rfl rfl ?_
              refine SPL_y (y_sub rfl rfl (by omega)) rfl ?_
              refine SPL_gy rfl rfl ?_
              refine SPL_y (y_sub rfl rfl (by omega)) rfl ?_
              refine SPL_gy rfl rfl ?_
              refine SPL_ifn (y_leq rfl rfl) rfl ?_ ?_
              · intro h29_16
                refine SPL_y (y_pick_t rfl rfl) rfl ?_
                refine SPL_nil ?_
                refine thenP_n ?_
                refine SP_cond_f rfl ?_
                refine SP_skip ?_
                refine thenP_n ?_
                refine SP_exit ?_
                refine inBlockP_miss rfl ?_
                refine thenP_exit ?_
                refine inBlockP_miss rfl ?_
                refine thenP_exit ?_
                refine inBlockP_miss rfl ?_
                refine thenP_exit ?_
                refine inBlockP_hit ?_
                refine thenP_n ?_
                have hlr2 := hlr
                unfold lexOne at hlr2
                rw [if_neg (by omega), if_neg hncm, if_neg (by rw [hlt]; decide), if_neg (by omega), if_pos h15_1] at hlr2
                exact Mid.intro ((runF (untilP 34) src (pos + 1) + 1, ⟨1, pos, [], 0, 14⟩)) (⟨by rw [hlr, ← hlr2, strAt]; dsimp only; rw [if_neg (fun q => by omega)], by dsimp only; omega⟩) (by repeat (first | exact Sub.nil _ | refine Sub.cons rfl ?_)) (by repeat (first | exact Part.nil _ | (apply Part.cons; (first | exact P0 | exact P1 | exact P2 | exact P3 | exact P4 | exact P5 | exact P6 | exact P7 | exact P8 | exact P9 | exact P10 | exact P11 | exact P12 | exact P13 | exact P14 | exact P15 | exact P16 | exact P17 | exact P18 | exact P19 | exact P20 | exact P21 | exact P22 | exact P23)) | (apply Part.flat; simp only [List.cons_append, List.nil_append]) | (apply Part.nilc)))
              intro h29_16
              refine SPL_y (y_pick_t rfl rfl) rfl ?_
              refine SPL_nil ?_
              refine thenP_n ?_
              refine SP_cond_t rfl ?_
              refine SP_seq ?_
              refine SP_region ?_
              refine SPL_y (y_fa fld_156_0 rfl) rfl ?_
              refine SPL_one rfl (SP1_store Tryz.sizeOf154 rfl rfl rfl (by first | exact U0 | exact U1 | exact U2 | exact U3 | exact U4 | exact U5 | exact U6 | exact U7 | exact U8 | exact U9 | exact U10 | exact U11 | exact U12 | exact U13 | exact U14 | exact U15 | exact U16 | exact U17 | exact U18 | exact U19 | exact U20 | exact U21 | exact U22 | exact U23) (by rfl) ?_)
              refine SPL_nil ?_
              refine thenP_n ?_
              refine SP_region ?_
              refine SPL_y (y_move rfl) rfl ?_
              refine SPL_y (y_move rfl) rfl ?_
              refine SPL_y (y_addE rfl rfl (c := ((pos + 1 : Nat) : Int)) (by omega) (by omega)) rfl ?_
              refine SPL_y (y_move rfl) rfl ?_
              refine SPL_y (y_subE rfl rfl (c := ((runF (untilP 34) src (pos + 1) + 1 - 1 : Nat) : Int)) (by omega) (by omega)) rfl ?_
              refine SPL_y (y_str_lh Tryz.underlying9 rfl rfl rfl (by omega)) rfl ?_
              refine SPL_y (y_fa fld_156_2 rfl) rfl ?_
              refine SPL_one rfl (SP1_store Tryz.sizeOf9 rfl rfl rfl (by first | exact U0 | exact U1 | exact U2 | exact U3 | exact U4 | exact U5 | exact U6 | exact U7 | exact U8 | exact U9 | exact U10 | exact U11 | exact U12 | exact U13 | exact U14 | exact U15 | exact U16 | exact U17 | exact U18 | exact U19 | exact U20 | exact U21 | exact U22 | exact U23) (by rfl) ?_)
              refine SPL_nil ?_
              refine thenP_n ?_
              refine SP_exit ?_
              refine inBlockP_miss rfl ?_
              refine thenP_exit ?_
              refine inBlockP_miss rfl ?_
              refine thenP_exit ?_
              refine inBlockP_miss rfl ?_
              refine thenP_exit ?_
              refine inBlockP_hit ?_
              refine thenP_n ?_
              have hlr2 := hlr
              unfold lexOne at hlr2
              rw [if_neg (by omega), if_neg hncm, if_neg (by rw [hlt]; decide), if_neg (by omega), if_pos h15_1] at hlr2
              exact Mid.intro ((runF (untilP 34) src (pos + 1) + 1, ⟨4, pos, cutS src (pos + 1) (runF (untilP 34) src (pos + 1) + 1 - 1), 0, 14⟩)) (⟨by rw [hlr, ← hlr2, strAt]; dsimp only; rw [if_pos ⟨by omega, by rw [hgd]; exact h29_9, by omega⟩], by dsimp only; omega⟩) (by repeat (first | exact Sub.nil _ | refine Sub.cons rfl ?_)) (by repeat (first | exact Part.nil _ | (apply Part.cons; (first | exact P0 | exact P1 | exact P2 | exact P3 | exact P4 | exact P5 | exact P6 | exact P7 | exact P8 | exact P9 | exact P10 | exact P11 | exact P12 | exact P13 | exact P14 | exact P15 | exact P16 | exact P17 | exact P18 | exact P19 | exact P20 | exact P21 | exact P22 | exact P23)) | (apply Part.flat; simp only [List.cons_append, List.nil_append]) | (apply Part.nilc)))
            intro h15_1
            refine SPL_y (y_assign rfl) rfl ?_
            refine SPL_nil ?_
            refine thenP_n ?_
            refine SP_cond_f rfl ?_
            refine SP_skip ?_
            refine thenP_n ?_
            refine SP_seq ?_
            refine SP_seq ?_
            refine SP_region ?_
            refine SPL_y (y_move rfl) rfl ?_
            refine SPL_if (y_eql rfl rfl) rfl ?_ ?_
            · intro h16_1
              refine SPL_y (y_move rfl) rfl ?_
              refine SPL_gn rfl rfl rfl rfl ?_
              refine SPL_gn rfl rfl rfl rfl ?_
              refine SPL_y (y_pick_t rfl rfl) rfl ?_
              refine SPL_y (y_assign rfl) rfl ?_
              refine SPL_nil ?_
              refine thenP_n ?_
              refine SP_cond_t rfl ?_
              refine SP_exit ?_
              refine thenP_exit ?_
              refine thenP_exit ?_
              refine inBlockP_miss rfl ?_
              refine thenP_exit ?_
              refine inBlockP_miss rfl ?_
              refine thenP_exit ?_
              refine inBlockP_miss rfl ?_
              refine thenP_exit ?_
              refine inBlockP_miss rfl ?_
              refine thenP_exit ?_
              refine inBlockP_miss rfl ?_
              refine thenP_exit ?_
              refine inBlockP_hit ?_
              refine thenP_n ?_
              refine SP_region ?_
              refine SPL_y (y_move rfl) rfl ?_
              refine SPL_y (y_conv Tryz.underlying21 Tryz.underlying5 rfl rfl) rfl ?_
              refine SPL_y (y_assign rfl) rfl ?_
              refine SPL_nil ?_
              refine inBlockP_n ?_
              refine thenP_n ?_
              have hls : lexOne src pos r = some (.tok (signAt src pos r).1 ⟨signM (signAt src pos r).2, pos, [], 0, 13⟩) := by unfold lexOne; rw [if_neg (by omega), if_neg hncm, hlt, if_neg (by decide), if_neg (by omega), if_neg h15_1]
              exact Mid.intro (IntKind.u8.wrap r) (⟨hls, by unfold twinOf; rw [if_pos (by omega)]⟩) (by repeat (first | exact Sub.nil _ | refine Sub.cons rfl ?_)) (by repeat (first | exact Part.nil _ | (apply Part.cons; (first | exact P0 | exact P1 | exact P2 | exact P3 | exact P4 | exact P5 | exact P6 | exact P7 | exact P8 | exact P9 | exact P10 | exact P11 | exact P12 | exact P13 | exact P14 | exact P15 | exact P16 | exact P17 | exact P18 | exact P19 | exact P20 | exact P21 | exact P22 | exact P23)) | (apply Part.flat; simp only [List.cons_append, List.nil_append]) | (apply Part.nilc)))
            intro h16_1
            refine SPL_y (y_move rfl) rfl ?_
            refine SPL_gy rfl rfl ?_
            refine SPL_y (y_move rfl) rfl ?_
            refine SPL_gy rfl rfl ?_
            refine SPL_if (y_eql rfl rfl) rfl ?_ ?_
            · intro h16_4
              refine SPL_y (y_pick_f rfl rfl) rfl ?_
              refine SPL_y (y_assign rfl) rfl ?_
              refine SPL_nil ?_
              refine thenP_n ?_
              refine SP_cond_t rfl ?_
              refine SP_exit ?_
              refine thenP_exit ?_
              refine thenP_exit ?_
              refine inBlockP_miss rfl ?_
              refine thenP_exit ?_
              refine inBlockP_miss rfl ?_
              refine thenP_exit ?_
              refine inBlockP_miss rfl ?_
              refine thenP_exit ?_
              refine inBlockP_miss rfl ?_
              refine thenP_exit ?_
              refine inBlockP_miss rfl ?_
              refine thenP_exit ?_
              refine inBlockP_hit ?_
              refine thenP_n ?_
              refine SP_region ?_
              refine SPL_y (y_move rfl) rfl ?_
              refine SPL_y (y_conv Tryz.underlying21 Tryz.underlying5 rfl rfl) rfl ?_
              refine SPL_y (y_assign rfl) rfl ?_
              refine SPL_nil ?_
              refine inBlockP_n ?_
              refine thenP_n ?_
              have hls : lexOne src pos r = some (.tok (signAt src pos r).1 ⟨signM (signAt src pos r).2, pos, [], 0, 13⟩) := by unfold lexOne; rw [if_neg (by omega), if_neg hncm, hlt, if_neg (by decide), if_neg (by omega), if_neg h15_1]
              exact Mid.intro (IntKind.u8.wrap r) (⟨hls, by unfold twinOf; rw [if_pos (by omega)]⟩) (by repeat (first | exact Sub.nil _ | refine Sub.cons rfl ?_)) (by repeat (first | exact Part.nil _ | (apply Part.cons; (first | exact P0 | exact P1 | exact P2 | exact P3 | exact P4 | exact P5 | exact P6 | exact P7 | exact P8 | exact P9 | exact P10 | exact P11 | exact P12 | exact P13 | exact P14 | exact P15 | exact P16 | exact P17 | exact P18 | exact P19 | exact P20 | exact P21 | exact P22 | exact P23)) | (apply Part.flat; simp only [List.cons_append, List.nil_append]) | (apply Part.nilc)))
            intro h16_4
            refine SPL_y (y_pick_f rfl rfl) rfl ?_
            refine SPL_y (y_assign rfl) rfl ?_
            refine SPL_nil ?_
            refine thenP_n ?_
            refine SP_cond_f rfl ?_
            refine SP_skip ?_
            refine thenP_n ?_
            refine SP_seq ?_
            refine SP_region ?_
            refine SPL_y (y_move rfl) rfl ?_
            refine SPL_if (y_eql rfl rfl) rfl ?_ ?_
            · intro h17_1
              refine SPL_y (y_move rfl) rfl ?_
              refine SPL_gn rfl rfl rfl rfl ?_
              refine SPL_gn rfl rfl rfl rfl ?_
              refine SPL_y (y_pick_t rfl rfl) rfl ?_
              refine SPL_y (y_move rfl) rfl ?_
              refine SPL_gn rfl rfl rfl rfl ?_
              refine SPL_gn rfl rfl rfl rfl ?_
              refine SPL_y (y_pick_t rfl rfl) rfl ?_
              refine SPL_y (y_move rfl) rfl ?_
              refine SPL_gn rfl rfl rfl rfl ?_
              refine SPL_gn rfl rfl rfl rfl ?_
              refine SPL_y (y_pick_t rfl rfl) rfl ?_
              refine SPL_y (y_assign rfl) rfl ?_
              refine SPL_nil ?_
              refine thenP_n ?_
              refine SP_cond_t rfl ?_
              refine SP_exit ?_
              refine thenP_exit ?_
              refine inBlockP_miss rfl ?_
              refine thenP_exit ?_
              refine inBlockP_miss rfl ?_
              refine thenP_exit ?_
              refine inBlockP_miss rfl ?_
              refine thenP_exit ?_
              refine inBlockP_miss rfl ?_
              refine thenP_exit ?_
              refine inBlockP_miss rfl ?_
              refine thenP_exit ?_
              refine inBlockP_miss rfl ?_
              refine thenP_exit ?_
              refine inBlockP_hit ?_
              refine thenP_n ?_
              have hls : lexOne src pos r = some (.tok (signAt src pos r).1 ⟨signM (signAt src pos r).2, pos, [], 0, 13⟩) := by unfold lexOne; rw [if_neg (by omega), if_neg hncm, hlt, if_neg (by decide), if_neg (by omega), if_neg h15_1]
              exact Mid.intro (61) (⟨hls, by unfold twinOf; rw [if_neg (by omega), if_pos (by omega)]⟩) (by repeat (first | exact Sub.nil _ | refine Sub.cons rfl ?_)) (by repeat (first | exact Part.nil _ | (apply Part.cons; (first | exact P0 | exact P1 | exact P2 | exact P3 | exact P4 | exact P5 | exact P6 | exact P7 | exact P8 | exact P9 | exact P10 | exact P11 | exact P12 | exact P13 | exact P14 | exact P15 | exact P16 | exact P17 | exact P18 | exact P19 | exact P20 | exact P21 | exact P22 | exact P23)) | (apply Part.flat; simp only [List.cons_append, List.nil_append]) | (apply Part.nilc)))
            intro h17_1
            refine SPL_y (y_move rfl) rfl ?_
            refine SPL_gy rfl rfl ?_
            refine SPL_y (y_move rfl) rfl ?_
            refine SPL_gy rfl rfl ?_
            refine SPL_if (y_eql rfl rfl) rfl ?_ ?_
            · intro h17_4
              refine SPL_y (y_pick_f rfl rfl) rfl ?_
              refine SPL_y (y_move rfl) rfl ?_
              refine SPL_gn rfl rfl rfl rfl ?_
              refine SPL_gn rfl rfl rfl rfl ?_
              refine SPL_y (y_pick_t rfl rfl) rfl ?_
              refine SPL_y (y_move rfl) rfl ?_
              refine SPL_gn rfl rfl rfl rfl ?_
              refine SPL_gn rfl rfl rfl rfl ?_
              refine SPL_y (y_pick_t rfl rfl) rfl ?_
              refine SPL_y (y_assign rfl) rfl ?_
              refine SPL_nil ?_
              refine thenP_n ?_
              refine SP_cond_t rfl ?_
              refine SP_exit ?_
              refine thenP_exit ?_
              refine inBlockP_miss rfl ?_
              refine thenP_exit ?_
              refine inBlockP_miss rfl ?_
              refine thenP_exit ?_
              refine inBlockP_miss rfl ?_
              refine thenP_exit ?_
              refine inBlockP_miss rfl ?_
              refine thenP_exit ?_
              refine inBlockP_miss rfl ?_
              refine thenP_exit ?_
              refine inBlockP_miss rfl ?_
              refine thenP_exit ?_
              refine inBlockP_hit ?_
              refine thenP_n ?_
              have hls : lexOne src pos r = some (.tok (signAt src pos r).1 ⟨signM (signAt src pos r).2, pos, [], 0, 13⟩) := by unfold lexOne; rw [if_neg (by omega), if_neg hncm, hlt, if_neg (by decide), if_neg (by omega), if_neg h15_1]
              exact Mid.intro (61) (⟨hls, by unfold twinOf; rw [if_neg (by omega), if_pos (by omega)]⟩) (by repeat (first | exact Sub.nil _ | refine Sub.cons rfl ?_)) (by repeat (first | exact Part.nil _ | (apply Part.cons; (first | exact P0 | exact P1 | exact P2 | exact P3 | exact P4 | exact P5 | exact P6 | exact P7 | exact P8 | exact P9 | exact P10 | exact P11 | exact P12 | exact P13 | exact P14 | exact P15 | exact P16 | exact P17 | exact P18 | exact P19 | exact P20 | exact P21 | exact P22 | exact P23)) | (apply Part.flat; simp only [List.cons_append, List.nil_append]) | (apply Part.nilc)))
            intro h17_4
            refine SPL_y (y_pick_f rfl rfl) rfl ?_
            refine SPL_y (y_move rfl) rfl ?_
            refine SPL_gy rfl rfl ?_
            refine SPL_y (y_move rfl) rfl ?_
            refine SPL_gy rfl rfl ?_
            refine SPL_if (y_eql rfl rfl) rfl ?_ ?_
            · intro h17_8
              refine SPL_y (y_pick_f rfl rfl) rfl ?_
              refine SPL_y (y_move rfl) rfl ?_
              refine SPL_gn rfl rfl rfl rfl ?_
              refine SPL_gn rfl rfl rfl rfl ?_
              refine SPL_y (y_pick_t rfl rfl) rfl ?_
              refine SPL_y (y_assign rfl) rfl ?_
              refine SPL_nil ?_
              refine thenP_n ?_
              refine SP_cond_t rfl ?_
              refine SP_exit ?_
              refine thenP_exit ?_
              refine inBlockP_miss rfl ?_
              refine thenP_exit ?_
              refine inBlockP_miss rfl ?_
              refine thenP_exit ?_
              refine inBlockP_miss rfl ?_
              refine thenP_exit ?_
              refine inBlockP_miss rfl ?_
              refine thenP_exit ?_
              refine inBlockP_miss rfl ?_
              refine thenP_exit ?_
              refine inBlockP_miss rfl ?_
              refine thenP_exit ?_
              refine inBlockP_hit ?_
              refine thenP_n ?_
              have hls : lexOne src pos r = some (.tok (signAt src pos r).1 ⟨signM (signAt src pos r).2, pos, [], 0, 13⟩) := by unfold lexOne; rw [if_neg (by omega), if_neg hncm, hlt, if_neg (by decide), if_neg (by omega), if_neg h15_1]
              exact Mid.intro (61) (⟨hls, by unfold twinOf; rw [if_neg (by omega), if_pos (by omega)]⟩) (by repeat (first | exact Sub.nil _ | refine Sub.cons rfl ?_)) (by repeat (first | exact Part.nil _ | (apply Part.cons; (first | exact P0 | exact P1 | exact P2 | exact P3 | exact P4 | exact P5 | exact P6 | exact P7 | exact P8 | exact P9 | exact P10 | exact P11 | exact P12 | exact P13 | exact P14 | exact P15 | exact P16 | exact P17 | exact P18 | exact P19 | exact P20 | exact P21 | exact P22 | exact P23)) | (apply Part.flat; simp only [List.cons_append, List.nil_append]) | (apply Part.nilc)))
            intro h17_8
            refine SPL_y (y_pick_f rfl rfl) rfl ?_
            refine SPL_y (y_move rfl) rfl ?_
            refine SPL_gy rfl rfl ?_
            refine SPL_y (y_move rfl) rfl ?_
            refine SPL_gy rfl rfl ?_
            refine SPL_if (y_eql rfl rfl) rfl ?_ ?_
            · intro h17_12
              refine SPL_y (y_pick_f rfl rfl) rfl ?_
              refine SPL_y (y_assign rfl) rfl ?_
              refine SPL_nil ?_
              refine thenP_n ?_
              refine SP_cond_t rfl ?_
              refine SP_exit ?_
              refine thenP_exit ?_
              refine inBlockP_miss rfl ?_
              refine thenP_exit ?_
              refine inBlockP_miss rfl ?_
              refine thenP_exit ?_
              refine inBlockP_miss rfl ?_
              refine thenP_exit ?_
              refine inBlockP_miss rfl ?_
              refine thenP_exit ?_
              refine inBlockP_miss rfl ?_
              refine thenP_exit ?_
              refine inBlockP_miss rfl ?_
              refine thenP_exit ?_
              refine inBlockP_hit ?_
              refine thenP_n ?_
              have hls : lexOne src pos r = some (.tok (signAt src pos r).1 ⟨signM (signAt src pos r).2, pos, [], 0, 13⟩) := by unfold lexOne; rw [if_neg (by omega), if_neg hncm, hlt, if_neg (by decide), if_neg (by omega), if_neg h15_1]
              exact Mid.intro (61) (⟨hls, by unfold twinOf; rw [if_neg (by omega), if_pos (by omega)]⟩) (by repeat (first | exact Sub.nil _ | refine Sub.cons rfl ?_)) (by repeat (first | exact Part.nil _ | (apply Part.cons; (first | exact P0 | exact P1 | exact P2 | exact P3 | exact P4 | exact P5 | exact P6 | exact P7 | exact P8 | exact P9 | exact P10 | exact P11 | exact P12 | exact P13 | exact P14 | exact P15 | exact P16 | exact P17 | exact P18 | exact P19 | exact P20 | exact P21 | exact P22 | exact P23)) | (apply Part.flat; simp only [List.cons_append, List.nil_append]) | (apply Part.nilc)))
            intro h17_12
            refine SPL_y (y_pick_f rfl rfl) rfl ?_
            refine SPL_y (y_assign rfl) rfl ?_
            refine SPL_nil ?_
            refine thenP_n ?_
            refine SP_cond_f rfl ?_
            refine SP_skip ?_
            refine thenP_n ?_
            refine SP_exit ?_
            refine inBlockP_miss rfl ?_
            refine thenP_exit ?_
            refine inBlockP_miss rfl ?_
            refine thenP_exit ?_
            refine inBlockP_miss rfl ?_
            refine thenP_exit ?_
            refine inBlockP_miss rfl ?_
            refine thenP_exit ?_
            refine inBlockP_miss rfl ?_
            refine thenP_exit ?_
            refine inBlockP_miss rfl ?_
            refine thenP_exit ?_
            refine inBlockP_miss rfl ?_
            refine thenP_exit ?_
            refine inBlockP_hit ?_
            refine thenP_n ?_
            have hls : lexOne src pos r = some (.tok (signAt src pos r).1 ⟨signM (signAt src pos r).2, pos, [], 0, 13⟩) := by unfold lexOne; rw [if_neg (by omega), if_neg hncm, hlt, if_neg (by decide), if_neg (by omega), if_neg h15_1]
            exact Mid.intro ((pos + 1, encR r)) (⟨hls, by unfold signAt twinOf; rw [if_neg (by omega), if_neg (by omega)], by dsimp only; omega⟩) (by repeat (first | exact Sub.nil _ | refine Sub.cons rfl ?_)) (by repeat (first | exact Part.nil _ | (apply Part.cons; (first | exact P0 | exact P1 | exact P2 | exact P3 | exact P4 | exact P5 | exact P6 | exact P7 | exact P8 | exact P9 | exact P10 | exact P11 | exact P12 | exact P13 | exact P14 | exact P15 | exact P16 | exact P17 | exact P18 | exact P19 | exact P20 | exact P21 | exact P22 | exact P23)) | (apply Part.flat; simp only [List.cons_append, List.nil_append]) | (apply Part.nilc)))
          intro h14_1
          refine SPL_y (y_move rfl) rfl ?_
          refine SPL_gy rfl rfl ?_
          refine SPL_y (y_move rfl) rfl ?_
          refine SPL_gy rfl rfl ?_
          refine SPL_if (y_leq rfl rfl) rfl ?_ ?_
          · intro h14_4
            refine SPL_y (y_pick_t rfl rfl) rfl ?_
            refine SPL_y (y_assign rfl) rfl ?_
            refine SPL_nil ?_
            refine thenP_n ?_
            refine SP_cond_t rfl ?_
            refine SP_exit ?_
            refine thenP_exit ?_
            refine thenP_exit ?_
            refine inBlockP_miss rfl ?_
            refine thenP_exit ?_
            refine inBlockP_miss rfl ?_
            refine thenP_exit ?_
            refine inBlockP_miss rfl ?_
            refine thenP_exit ?_
            refine inBlockP_hit ?_
            refine thenP_n ?_
            refine SP_seq ?_
            refine SP_seq ?_
            refine SP_region ?_
            have hnl := numberM_le (src := src) (i := pos) (by omega)
            have hlr2 := hlr
            unfold lexOne at hlr2
            rw [if_neg (by omega), if_neg hncm, if_neg (by rw [hlt]; decide), if_pos ⟨h14_1, h14_4⟩] at hlr2
            unfold numAt at hlr2
            obtain ⟨fb, er, hpm⟩ : ∃ fb er, parseM (cutS src pos (numberM src pos)) = some (fb, er) := by
              cases hq : parseM (cutS src pos (numberM src pos)) with
              | none => rw [hq] at hlr2; cases hlr2
              | some q => exact ⟨q.1, q.2, rfl⟩
            rw [hpm] at hlr2
            dsimp only at hlr2
            refine SPL_y (y_move rfl) rfl ?_
            refine SPL_y (y_move rfl) rfl ?_
            refine SPL_one rfl (SP1_call (lx_number src hs pos (by omega)) Tryz.call122 rfl rfl (by repeat (first | exact Part.nil _ | (apply Part.cons; (first | exact P0 | exact P1 | exact P2 | exact P3 | exact P4 | exact P5 | exact P6 | exact P7 | exact P8 | exact P9 | exact P10 | exact P11 | exact P12 | exact P13 | exact P14 | exact P15 | exact P16 | exact P17 | exact P18 | exact P19 | exact P20 | exact P21 | exact P22 | exact P23)) | (apply Part.flat; simp only [List.cons_append, List.nil_append]) | (apply Part.nilc))) ?_)
            rintro v post H' ⟨rfl, rfl⟩ hH
            try simp only [List.cons_append, List.nil_append] at hH
            subst hH
            refine SPL_y (y_assign rfl) rfl ?_
            refine SPL_nil ?_
            refine thenP_n ?_
            refine SP_seq ?_
            refine SP_draw 8 [(0, 0), (1, 0), (2, 0), (4, 0), (5, 0), (6, 0), (7, 0), (3, 1), (8, 3), (9, 0), (10, 0), (11, 0), (12, 0), (13, 3), (14, 0), (15, 3)] mixed (by kernel_rfl) (fun _ _ _ _ _ h => h) (Part.refl _) ?_
            refine SPO_p rfl (y_move rfl) rfl ?_
            refine SPO_p rfl (y_nil rfl) rfl ?_
            refine SPO_p rfl (y_fa fld_106_0 rfl) rfl ?_
            refine SPO_p rfl (y_move rfl) rfl ?_
            refine SPO_p rfl (y_move rfl) rfl ?_
            refine SPO_p rfl (y_move rfl) rfl ?_
            refine SPO_p rfl (y_str_lh Tryz.underlying9 rfl rfl rfl (by omega)) rfl ?_
            refine SPO_h rfl (y_load Tryz.isAgg37 rfl (by repeat (first | exact Cell.amid hpre rfl | exact Cell.head rfl | apply Cell.tail))) rfl ?_
            refine SPO_z (k := 0) rfl rfl (SP1_call (num_Parse nv (cutS src pos (numberM src pos)) (by unfold cutS; simp; omega) fb er hpm) Tryz.call123 rfl rfl (by repeat (first | exact Part.nil _ | (apply Part.cons; (first | exact P0 | exact P1 | exact P2 | exact P3 | exact P4 | exact P5 | exact P6 | exact P7 | exact P8 | exact P9 | exact P10 | exact P11 | exact P12 | exact P13 | exact P14 | exact P15 | exact P16 | exact P17 | exact P18 | exact P19 | exact P20 | exact P21 | exact P22 | exact P23)) | (apply Part.flat; simp only [List.cons_append, List.nil_append]) | (apply Part.nilc))) ?_)
            rintro v post H' ⟨rfl, rfl⟩ hH
            try simp only [List.cons_append, List.nil_append] at hH
            subst hH
            refine SPO_p rfl (y_move rfl) rfl ?_
            refine SPO_p rfl (y_ext rfl rfl) rfl ?_
            refine SPO_p rfl (y_ext rfl rfl) rfl ?_
            refine SPO_p rfl (y_fa fld_156_3 rfl) rfl ?_
            refine SPO_z (k := 0) rfl rfl (SP1_store Tryz.sizeOf40 rfl rfl rfl (by first | exact U0 | exact U1 | exact U2 | exact U3 | exact U4 | exact U5 | exact U6 | exact U7 | exact U8 | exact U9 | exact U10 | exact U11 | exact U12 | exact U13 | exact U14 | exact U15 | exact U16 | exact U17 | exact U18 | exact U19 | exact U20 | exact U21 | exact U22 | exact U23) (by rfl) ?_)
            refine SPO_p rfl (y_fa fld_156_4 rfl) rfl ?_
            refine SPO_z (k := 0) rfl rfl (SP1_store Tryz.sizeOf30 rfl rfl rfl (by first | exact U0 | exact U1 | exact U2 | exact U3 | exact U4 | exact U5 | exact U6 | exact U7 | exact U8 | exact U9 | exact U10 | exact U11 | exact U12 | exact U13 | exact U14 | exact U15 | exact U16 | exact U17 | exact U18 | exact U19 | exact U20 | exact U21 | exact U22 | exact U23) (by rfl) ?_)
            refine SPO_nil ?_
            refine thenP_n ?_
            refine SP_seq ?_
            refine SP_seq ?_
            refine SP_region ?_
            refine SPL_y (y_fa fld_156_4 rfl) rfl ?_
            refine SPL_y (y_load Tryz.isAgg30 rfl (by repeat (first | exact Cell.amid hpre rfl | exact Cell.head rfl | apply Cell.tail))) rfl ?_
            refine SPL_ifn (y_eql rfl rfl) rfl ?_ ?_
            · intro h25_2
              refine SPL_nil ?_
              refine thenP_n ?_
              refine SP_cond_f rfl ?_
              refine SP_skip ?_
              refine thenP_n ?_
              refine SP_region ?_
              refine SPL_y (y_fa fld_156_4 rfl) rfl ?_
              refine SPL_one rfl (SP1_store Tryz.sizeOf30 rfl rfl rfl (by first | exact U0 | exact U1 | exact U2 | exact U3 | exact U4 | exact U5 | exact U6 | exact U7 | exact U8 | exact U9 | exact U10 | exact U11 | exact U12 | exact U13 | exact U14 | exact U15 | exact U16 | exact U17 | exact U18 | exact U19 | exact U20 | exact U21 | exact U22 | exact U23) (by rfl) ?_)
              refine SPL_nil ?_
              refine thenP_n ?_
              refine SP_exit ?_
              refine inBlockP_miss rfl ?_
              refine thenP_exit ?_
              refine inBlockP_miss rfl ?_
              refine thenP_exit ?_
              refine inBlockP_miss rfl ?_
              refine thenP_exit ?_
              refine inBlockP_miss rfl ?_
              refine thenP_exit ?_
              refine inBlockP_hit ?_
              refine thenP_n ?_
              exact Mid.intro ((numberM src pos, ⟨1, pos, [], fb, 2⟩)) (⟨by rw [hlr, ← hlr2, if_neg h25_2], by dsimp only; omega⟩) (by repeat (first | exact Sub.nil _ | refine Sub.cons rfl ?_)) (by repeat (first | exact Part.nil _ | (apply Part.cons; (first | exact P0 | exact P1 | exact P2 | exact P3 | exact P4 | exact P5 | exact P6 | exact P7 | exact P8 | exact P9 | exact P10 | exact P11 | exact P12 | exact P13 | exact P14 | exact P15 | exact P16 | exact P17 | exact P18 | exact P19 | exact P20 | exact P21 | exact P22 | exact P23)) | (apply Part.flat; simp only [List.cons_append, List.nil_append]) | (apply Part.nilc)))
            intro h25_2
            refine SPL_nil ?_
            refine thenP_n ?_
            refine SP_cond_t rfl ?_
            refine SP_region ?_
            refine SPL_y (y_fa fld_156_0 rfl) rfl ?_
            refine SPL_one rfl (SP1_store Tryz.sizeOf154 rfl rfl rfl (by first | exact U0 | exact U1 | exact U2 | exact U3 | exact U4 | exact U5 | exact U6 | exact U7 | exact U8 | exact U9 | exact U10 | exact U11 | exact U12 | exact U13 | exact U14 | exact U15 | exact U16 | exact U17 | exact U18 | exact U19 | exact U20 | exact U21 | exact U22 | exact U23) (by rfl) ?_)
            refine SPL_nil ?_
            refine thenP_n ?_
            refine SP_region ?_
            refine SPL_y (y_fa fld_156_4 rfl) rfl ?_
            refine SPL_one rfl (SP1_store Tryz.sizeOf30 rfl rfl rfl (by first | exact U0 | exact U1 | exact U2 | exact U3 | exact U4 | exact U5 | exact U6 | exact U7 | exact U8 | exact U9 | exact U10 | exact U11 | exact U12 | exact U13 | exact U14 | exact U15 | exact U16 | exact U17 | exact U18 | exact U19 | exact U20 | exact U21 | exact U22 | exact U23) (by rfl) ?_)
            refine SPL_nil ?_
            refine thenP_n ?_
            refine SP_exit ?_
            refine inBlockP_miss rfl ?_
            refine thenP_exit ?_
            refine inBlockP_miss rfl ?_
            refine thenP_exit ?_
            refine inBlockP_miss rfl ?_
            refine thenP_exit ?_
            refine inBlockP_miss rfl ?_
            refine thenP_exit ?_
            refine inBlockP_hit ?_
            refine thenP_n ?_
            exact Mid.intro ((numberM src pos, ⟨3, pos, [], fb, 2⟩)) (⟨by rw [hlr, ← hlr2, if_pos h25_2], by dsimp only; omega⟩) (by repeat (first | exact Sub.nil _ | refine Sub.cons rfl ?_)) (by repeat (first | exact Part.nil _ | (apply Part.cons; (first | exact P0 | exact P1 | exact P2 | exact P3 | exact P4 | exact P5 | exact P6 | exact P7 | exact P8 | exact P9 | exact P10 | exact P11 | exact P12 | exact P13 | exact P14 | exact P15 | exact P16 | exact P17 | exact P18 | exact P19 | exact P20 | exact P21 | exact P22 | exact P23)) | (apply Part.flat; simp only [List.cons_append, List.nil_append]) | (apply Part.nilc)))
          intro h14_4
          refine SPL_y (y_pick_t rfl rfl) rfl ?_
          refine SPL_y (y_assign rfl) rfl ?_
          refine SPL_nil ?_
          refine thenP_n ?_
          refine SP_cond_f rfl ?_
          refine SP_skip ?_
          refine thenP_n ?_
          refine SP_seq ?_
          refine SP_seq ?_
          refine SP_region ?_
          refine SPL_y (y_move rfl) rfl ?_
          refine SPL_if (y_eql rfl rfl) rfl ?_ ?_
          · intro h15_1
            refine SPL_y (y_assign rfl) rfl ?_
            refine SPL_nil ?_
            refine thenP_n ?_
            refine SP_cond_t rfl ?_
            refine SP_exit ?_
            refine thenP_exit ?_
            refine thenP_exit ?_
            refine inBlockP_miss rfl ?_
            refine thenP_exit ?_
            refine inBlockP_miss rfl ?_
            refine thenP_exit ?_
            refine inBlockP_miss rfl ?_
            refine thenP_exit ?_
            refine inBlockP_miss rfl ?_
            refine thenP_exit ?_
            refine inBlockP_hit ?_
            refine thenP_n ?_
            refine SP_seq ?_
            refine SP_seq ?_
            refine SP_region ?_
            have hrl := runF_le (p := untilP 34) (src := src) (i := pos + 1) (by omega)
            refine SPL_y (y_move rfl) rfl ?_
            refine SPL_y (y_move rfl) rfl ?_
            refine SPL_y (y_addE rfl rfl (c := ((pos + 1 : Nat) : Int)) (by omega) (by omega)) rfl ?_
            refine SPL_one rfl (SP1_call (lx_until src hs (pos + 1) 34) Tryz.call118 rfl rfl (by repeat (first | exact Part.nil _ | (apply Part.cons; (first | exact P0 | exact P1 | exact P2 | exact P3 | exact P4 | exact P5 | exact P6 | exact P7 | exact P8 | exact P9 | exact P10 | exact P11 | exact P12 | exact P13 | exact P14 | exact P15 | exact P16 | exact P17 | exact P18 | exact P19 | exact P20 | exact P21 | exact P22 | exact P23)) | (apply Part.flat; simp only [List.cons_append, List.nil_append]) | (apply Part.nilc))) ?_)
            rintro v post H' ⟨rfl, rfl⟩ hH
            try simp only [List.cons_append, List.nil_append] at hH
            subst hH
            refine SPL_y (y_addE rfl rfl (c := ((runF (untilP 34) src (pos + 1) + 1 : Nat) : Int)) (by omega) (by omega)) rfl ?_
            refine SPL_y (y_assign rfl) rfl ?_
            refine SPL_nil ?_
            refine thenP_n ?_
            refine SP_seq ?_
            refine SP_region ?_
            refine SPL_y (y_move rfl) rfl ?_
            refine SPL_y (y_move rfl) rfl ?_
            refine SPL_y (y_len_s Tryz.underlying9 rfl) rfl ?_
            refine SPL_ifn (y_leq rfl rfl) rfl ?_ ?_
            · intro h29_3
              refine SPL_y (y_move rfl) rfl ?_
              refine SPL_gn rfl rfl rfl rfl ?_
              refine SPL_gn rfl rfl rfl rfl ?_
              refine SPL_gn rfl rfl rfl rfl ?_
              refine SPL_gn rfl rfl rfl rfl ?_
              refine SPL_gn rfl rfl rfl rfl ?_
              refine SPL_y (y_pick_f rfl rfl) rfl ?_
              refine SPL_y (y_move rfl) rfl ?_
              refine SPL_gn rfl rfl rfl rfl ?_
              refine SPL_gn rfl rfl rfl rfl ?_
              refine SPL_gn rfl rfl rfl rfl ?_
              refine SPL_gn rfl rfl rfl rfl ?_
              refine SPL_gn rfl rfl rfl rfl ?_
              refine SPL_y (y_pick_f rfl rfl) rfl ?_
              refine SPL_nil ?_
              refine thenP_n ?_
              refine SP_cond_f rfl ?_
              refine SP_skip ?_
              refine thenP_n ?_
              refine SP_exit ?_
              refine inBlockP_miss rfl ?_
              refine thenP_exit ?_
              refine inBlockP_miss rfl ?_
              refine thenP_exit ?_
              refine inBlockP_miss rfl ?_
              refine thenP_exit ?_
              refine inBlockP_hit ?_
              refine thenP_n ?_
              have hlr2 := hlr
              unfold lexOne at hlr2
              rw [if_neg (by omega), if_neg hncm, if_neg (by rw [hlt]; decide), if_neg (by omega), if_pos h15_1] at hlr2
              exact Mid.intro ((runF (untilP 34) src (pos + 1) + 1, ⟨1, pos, [], 0, 14⟩)) (⟨by rw [hlr, ← hlr2, strAt]; dsimp only; rw [if_neg (fun q => by omega)], by dsimp only; omega⟩) (by repeat (first | exact Sub.nil _ | refine Sub.cons rfl ?_)) (by repeat (first | exact Part.nil _ | (apply Part.cons; (first | exact P0 | exact P1 | exact P2 | exact P3 | exact P4 | exact P5 | exact P6 | exact P7 | exact P8 | exact P9 | exact P10 | exact P11 | exact P12 | exact P13 | exact P14 | exact P15 | exact P16 | exact P17 | exact P18 | exact P19 | exact P20 | exact P21 | exact P22 | exact P23)) | (apply Part.flat; simp only [List.cons_append, List.nil_append]) | (apply Part.nilc)))
            intro h29_3
            refine SPL_y (y_move rfl) rfl ?_
            refine SPL_gy rfl rfl ?_
            refine SPL_y (y_move rfl) rfl ?_
            refine SPL_gy rfl rfl ?_
            refine SPL_y (y_move rfl) rfl ?_
            refine SPL_gy rfl rfl ?_
            refine SPL_y (y_subE rfl rfl (c := ((runF (untilP 34) src (pos + 1) + 1 - 1 : Nat) : Int)) (by omega) (by omega)) rfl ?_
            refine SPL_gy rfl rfl ?_
            have hgd : src.getD (runF (untilP 34) src (pos + 1) + 1 - 1) 0 = src[runF (untilP 34) src (pos + 1) + 1 - 1] := by rw [List.getD_eq_getElem?_getD, List.getElem?_eq_getElem (by omega)]; rfl
            refine SPL_y (y_idx_s Tryz.underlying9 rfl rfl (by omega) (getN (by omega))) rfl ?_
            refine SPL_gy rfl rfl ?_
            refine SPL_ifn (y_eql rfl rfl) rfl ?_ ?_
            · intro h29_9
              refine SPL_y (y_pick_t rfl rfl) rfl ?_
              refine SPL_y (y_move rfl) rfl ?_
              refine SPL_gn rfl rfl rfl rfl ?_
              refine SPL_gn rfl rfl rfl rfl ?_
              refine SPL_gn rfl rfl rfl rfl ?_
              refine SPL_gn rfl rfl rfl rfl ?_
              refine SPL_gn rfl rfl rfl rfl ?_
              refine SPL_y (y_pick_f rfl rfl) rfl ?_
              refine SPL_nil ?_
              refine thenP_n ?_
              refine SP_cond_f rfl ?_
              refine SP_skip ?_
              refine thenP_n ?_
              refine SP_exit ?_
              refine inBlockP_miss rfl ?_
              refine thenP_exit ?_
              refine inBlockP_miss rfl ?_
              refine thenP_exit ?_
              refine inBlockP_miss rfl ?_
              refine thenP_exit ?_
              refine inBlockP_hit ?_
              refine thenP_n ?_
              have hlr2 := hlr
              unfold lexOne at hlr2
              rw [if_neg (by omega), if_neg hncm, if_neg (by rw [hlt]; decide), if_neg (by omega), if_pos h15_1] at hlr2
              exact Mid.intro ((runF (untilP 34) src (pos + 1) + 1, ⟨1, pos, [], 0, 14⟩)) (⟨by rw [hlr, ← hlr2, strAt]; dsimp only; rw [if_neg (fun q => h29_9 (by rw [← hgd]; exact q.2.1))], by dsimp only; omega⟩) (by repeat (first | exact Sub.nil _ | refine Sub.cons rfl ?_)) (by repeat (first | exact Part.nil _ | (apply Part.cons; (first | exact P0 | exact P1 | exact P2 | exact P3 | exact P4 | exact P5 | exact P6 | exact P7 | exact P8 | exact P9 | exact P10 | exact P11 | exact P12 | exact P13 | exact P14 | exact P15 | exact P16 | exact P17 | exact P18 | exact P19 | exact P20 | exact P21 | exact P22 | exact P23)) | (apply Part.flat; simp only [List.cons_append, List.nil_append]) | (apply Part.nilc)))
            intro h29_9
            refine SPL_y (y_pick_t rfl rfl) rfl ?_
            refine SPL_y (y_move rfl) rfl ?_
            refine SPL_gy rfl rfl ?_
            refine SPL_y (y_move rfl) rfl ?_
            refine SPL_gy rfl rfl ?_
            refine SPL_y (y_move rfl) rfl ?_
            refine SPL_gy rfl rfl ?_
            refine SPL_y (y_sub rfl rfl (by omega)) rfl ?_
            refine SPL_gy rfl rfl ?_
            refine SPL_y (y_sub rfl rfl (by omega)) rfl ?_
            refine SPL_gy rfl rfl ?_
            refine SPL_ifn (y_leq rfl rfl) rfl ?_ ?_
            · intro h29_16
              refine SPL_y (y_pick_t rfl rfl) rfl ?_
              refine SPL_nil ?_
              refine thenP_n ?_
              refine SP_cond_f rfl ?_
              refine SP_skip ?_
              refine thenP_n ?_
              refine SP_exit ?_
              refine inBlockP_miss rfl ?_
              refine thenP_exit ?_
              refine inBlockP_miss rfl ?_
              refine thenP_exit ?_
              refine inBlockP_miss rfl ?_
              refine thenP_exit ?_
              refine inBlockP_hit ?_
              refine thenP_n ?_
              have hlr2 := hlr
              unfold lexOne at hlr2
              rw [if_neg (by omega), if_neg hncm, if_neg (by rw [hlt]; decide), if_neg (by omega), if_pos h15_1] at hlr2
              exact Mid.intro ((runF (untilP 34) src (pos + 1) + 1, ⟨1, pos, [], 0, 14⟩)) (⟨by rw [hlr, ← hlr2, strAt]; dsimp only; rw [if_neg (fun q => by omega)], by dsimp only; omega⟩) (by repeat (first | exact Sub.nil _ | refine Sub.cons rfl ?_)) (by repeat (first | exact Part.nil _ | (apply Part.cons; (first | exact P0 | exact P1 | exact P2 | exact P3 | exact P4 | exact P5 | exact P6 | exact P7 | exact P8 | exact P9 | exact P10 | exact P11 | exact P12 | exact P13 | exact P14 | exact P15 | exact P16 | exact P17 | exact P18 | exact P19 | exact P20 | exact P21 | exact P22 | exact P23)) | (apply Part.flat; simp only [List.cons_append, List.nil_append]) | (apply Part.nilc)))
            intro h29_16
            refine SPL_y (y_pick_t rfl rfl) rfl ?_
            refine SPL_nil ?_
            refine thenP_n ?_
            refine SP_cond_t rfl ?_
            refine SP_seq ?_
            refine SP_region ?_
            refine SPL_y (y_fa fld_156_0 rfl) rfl ?_
            refine SPL_one rfl (SP1_store Tryz.sizeOf154 rfl rfl rfl (by first | exact U0 | exact U1 | exact U2 | exact U3 | exact U4 | exact U5 | exact U6 | exact U7 | exact U8 | exact U9 | exact U10 | exact U11 | exact U12 | exact U13 | exact U14 | exact U15 | exact U16 | exact U17 | exact U18 | exact U19 | exact U20 | exact U21 | exact U22 | exact U23) (by rfl) ?_)
            refine SPL_nil ?_
            refine thenP_n ?_
            refine SP_region ?_
            refine SPL_y (y_move rfl) rfl ?_
            refine SPL_y (y_move rfl) rfl ?_
            refine SPL_y (y_addE rfl rfl (c := ((pos + 1 : Nat) : Int)) (by omega) (by omega)) rfl ?_
            refine SPL_y (y_move rfl) rfl ?_
            refine SPL_y (y_subE rfl rfl (c := ((runF (untilP 34) src (pos + 1) + 1 - 1 : Nat) : Int)) (by omega) (by omega)) rfl ?_
            refine SPL_y (y_str_lh Tryz.underlying9 rfl rfl rfl (by omega)) rfl ?_
            refine SPL_y (y_fa fld_156_2 rfl) rfl ?_
            refine SPL_one rfl (SP1_store Tryz.sizeOf9 rfl rfl rfl (by first | exact U0 | exact U1 | exact U2 | exact U3 | exact U4 | exact U5 | exact U6 | exact U7 | exact U8 | exact U9 | exact U10 | exact U11 | exact U12 | exact U13 | exact U14 | exact U15 | exact U16 | exact U17 | exact U18 | exact U19 | exact U20 | exact U21 | exact U22 | exact U23) (by rfl) ?_)
            refine SPL_nil ?_
            refine thenP_n ?_
            refine SP_exit ?_
            refine inBlockP_miss rfl ?_
            refine thenP_exit ?_
            refine inBlockP_miss rfl ?_
            refine thenP_exit ?_
            refine inBlockP_miss rfl ?_
            refine thenP_exit ?_
            refine inBlockP_hit ?_
            refine thenP_n ?_
            have hlr2 := hlr
            unfold lexOne at hlr2
            rw [if_neg (by omega), if_neg hncm, if_neg (by rw [hlt]; decide), if_neg (by omega), if_pos h15_1] at hlr2
            exact Mid.intro ((runF (untilP 34) src (pos + 1) + 1, ⟨4, pos, cutS src (pos + 1) (runF (untilP 34) src (pos + 1) + 1 - 1), 0, 14⟩)) (⟨by rw [hlr, ← hlr2, strAt]; dsimp only; rw [if_pos ⟨by omega, by rw [hgd]; exact h29_9, by omega⟩], by dsimp only; omega⟩) (by repeat (first | exact Sub.nil _ | refine Sub.cons rfl ?_)) (by repeat (first | exact Part.nil _ | (apply Part.cons; (first | exact P0 | exact P1 | exact P2 | exact P3 | exact P4 | exact P5 | exact P6 | exact P7 | exact P8 | exact P9 | exact P10 | exact P11 | exact P12 | exact P13 | exact P14 | exact P15 | exact P16 | exact P17 | exact P18 | exact P19 | exact P20 | exact P21 | exact P22 | exact P23)) | (apply Part.flat; simp only [List.cons_append, List.nil_append]) | (apply Part.nilc)))
          intro h15_1
          refine SPL_y (y_assign rfl) rfl ?_
          refine SPL_nil ?_
          refine thenP_n ?_
          refine SP_cond_f rfl ?_
          refine SP_skip ?_
          refine thenP_n ?_
          refine SP_seq ?_
          refine SP_seq ?_
          refine SP_region ?_
          refine SPL_y (y_move rfl) rfl ?_
          refine SPL_if (y_eql rfl rfl) rfl ?_ ?_
          · intro h16_1
            refine SPL_y (y_move rfl) rfl ?_
            refine SPL_gn rfl rfl rfl rfl ?_
            refine SPL_gn rfl rfl rfl rfl ?_
            refine SPL_y (y_pick_t rfl rfl) rfl ?_
            refine SPL_y (y_assign rfl) rfl ?_
            refine SPL_nil ?_
            refine thenP_n ?_
            refine SP_cond_t rfl ?_
            refine SP_exit ?_
            refine thenP_exit ?_
            refine thenP_exit ?_
            refine inBlockP_miss rfl ?_
            refine thenP_exit ?_
            refine inBlockP_miss rfl ?_
            refine thenP_exit ?_
            refine inBlockP_miss rfl ?_
            refine thenP_exit ?_
            refine inBlockP_miss rfl ?_
            refine thenP_exit ?_
            refine inBlockP_miss rfl ?_
            refine thenP_exit ?_
            refine inBlockP_hit ?_
            refine thenP_n ?_
            refine SP_region ?_
            refine SPL_y (y_move rfl) rfl ?_
            refine SPL_y (y_conv Tryz.underlying21 Tryz.underlying5 rfl rfl) rfl ?_
            refine SPL_y (y_assign rfl) rfl ?_
            refine SPL_nil ?_
            refine inBlockP_n ?_
            refine thenP_n ?_
            have hls : lexOne src pos r = some (.tok (signAt src pos r).1 ⟨signM (signAt src pos r).2, pos, [], 0, 13⟩) := by unfold lexOne; rw [if_neg (by omega), if_neg hncm, hlt, if_neg (by decide), if_neg (by omega), if_neg h15_1]
            exact Mid.intro (IntKind.u8.wrap r) (⟨hls, by unfold twinOf; rw [if_pos (by omega)]⟩) (by repeat (first | exact Sub.nil _ | refine Sub.cons rfl ?_)) (by repeat (first | exact Part.nil _ | (apply Part.cons; (first | exact P0 | exact P1 | exact P2 | exact P3 | exact P4 | exact P5 | exact P6 | exact P7 | exact P8 | exact P9 | exact P10 | exact P11 | exact P12 | exact P13 | exact P14 | exact P15 | exact P16 | exact P17 | exact P18 | exact P19 | exact P20 | exact P21 | exact P22 | exact P23)) | (apply Part.flat; simp only [List.cons_append, List.nil_append]) | (apply Part.nilc)))
          intro h16_1
          refine SPL_y (y_move rfl) rfl ?_
          refine SPL_gy rfl rfl ?_
          refine SPL_y (y_move rfl) rfl ?_
          refine SPL_gy rfl rfl ?_
          refine SPL_if (y_eql rfl rfl) rfl ?_ ?_
          · intro h16_4
            refine SPL_y (y_pick_f rfl rfl) rfl ?_
            refine SPL_y (y_assign rfl) rfl ?_
            refine SPL_nil ?_
            refine thenP_n ?_
            refine SP_cond_t rfl ?_
            refine SP_exit ?_
            refine thenP_exit ?_
            refine thenP_exit ?_
            refine inBlockP_miss rfl ?_
            refine thenP_exit ?_
            refine inBlockP_miss rfl ?_
            refine thenP_exit ?_
            refine inBlockP_miss rfl ?_
            refine thenP_exit ?_
            refine inBlockP_miss rfl ?_
            refine thenP_exit ?_
            refine inBlockP_miss rfl ?_
            refine thenP_exit ?_
            refine inBlockP_hit ?_
            refine thenP_n ?_
            refine SP_region ?_
            refine SPL_y (y_move rfl) rfl ?_
            refine SPL_y (y_conv Tryz.underlying21 Tryz.underlying5 rfl rfl) rfl ?_
            refine SPL_y (y_assign rfl) rfl ?_
            refine SPL_nil ?_
            refine inBlockP_n ?_
            refine thenP_n ?_
            have hls : lexOne src pos r = some (.tok (signAt src pos r).1 ⟨signM (signAt src pos r).2, pos, [], 0, 13⟩) := by unfold lexOne; rw [if_neg (by omega), if_neg hncm, hlt, if_neg (by decide), if_neg (by omega), if_neg h15_1]
            exact Mid.intro (IntKind.u8.wrap r) (⟨hls, by unfold twinOf; rw [if_pos (by omega)]⟩) (by repeat (first | exact Sub.nil _ | refine Sub.cons rfl ?_)) (by repeat (first | exact Part.nil _ | (apply Part.cons; (first | exact P0 | exact P1 | exact P2 | exact P3 | exact P4 | exact P5 | exact P6 | exact P7 | exact P8 | exact P9 | exact P10 | exact P11 | exact P12 | exact P13 | exact P14 | exact P15 | exact P16 | exact P17 | exact P18 | exact P19 | exact P20 | exact P21 | exact P22 | exact P23)) | (apply Part.flat; simp only [List.cons_append, List.nil_append]) | (apply Part.nilc)))
          intro h16_4
          refine SPL_y (y_pick_f rfl rfl) rfl ?_
          refine SPL_y (y_assign rfl) rfl ?_
          refine SPL_nil ?_
          refine thenP_n ?_
          refine SP_cond_f rfl ?_
          refine SP_skip ?_
          refine thenP_n ?_
          refine SP_seq ?_
          refine SP_region ?_
          refine SPL_y (y_move rfl) rfl ?_
          refine SPL_if (y_eql rfl rfl) rfl ?_ ?_
          · intro h17_1
            refine SPL_y (y_move rfl) rfl ?_
            refine SPL_gn rfl rfl rfl rfl ?_
            refine SPL_gn rfl rfl rfl rfl ?_
            refine SPL_y (y_pick_t rfl rfl) rfl ?_
            refine SPL_y (y_move rfl) rfl ?_
            refine SPL_gn rfl rfl rfl rfl ?_
            refine SPL_gn rfl rfl rfl rfl ?_
            refine SPL_y (y_pick_t rfl rfl) rfl ?_
            refine SPL_y (y_move rfl) rfl ?_
            refine SPL_gn rfl rfl rfl rfl ?_
            refine SPL_gn rfl rfl rfl rfl ?_
            refine SPL_y (y_pick_t rfl rfl) rfl ?_
            refine SPL_y (y_assign rfl) rfl ?_
            refine SPL_nil ?_
            refine thenP_n ?_
            refine SP_cond_t rfl ?_
            refine SP_exit ?_
            refine thenP_exit ?_
            refine inBlockP_miss rfl ?_
            refine thenP_exit ?_
            refine inBlockP_miss rfl ?_
            refine thenP_exit ?_
            refine inBlockP_miss rfl ?_
            refine thenP_exit ?_
            refine inBlockP_miss rfl ?_
            refine thenP_exit ?_
            refine inBlockP_miss rfl ?_
            refine thenP_exit ?_
            refine inBlockP_miss rfl ?_
            refine thenP_exit ?_
            refine inBlockP_hit ?_
            refine thenP_n ?_
            have hls : lexOne src pos r = some (.tok (signAt src pos r).1 ⟨signM (signAt src pos r).2, pos, [], 0, 13⟩) := by unfold lexOne; rw [if_neg (by omega), if_neg hncm, hlt, if_neg (by decide), if_neg (by omega), if_neg h15_1]
            exact Mid.intro (61) (⟨hls, by unfold twinOf; rw [if_neg (by omega), if_pos (by omega)]⟩) (by repeat (first | exact Sub.nil _ | refine Sub.cons rfl ?_)) (by repeat (first | exact Part.nil _ | (apply Part.cons; (first | exact P0 | exact P1 | exact P2 | exact P3 | exact P4 | exact P5 | exact P6 | exact P7 | exact P8 | exact P9 | exact P10 | exact P11 | exact P12 | exact P13 | exact P14 | exact P15 | exact P16 | exact P17 | exact P18 | exact P19 | exact P20 | exact P21 | exact P22 | exact P23)) | (apply Part.flat; simp only [List.cons_append, List.nil_append]) | (apply Part.nilc)))
          intro h17_1
          refine SPL_y (y_move rfl) rfl ?_
          refine SPL_gy rfl rfl ?_
          refine SPL_y (y_move rfl) rfl ?_
          refine SPL_gy rfl rfl ?_
          refine SPL_if (y_eql rfl rfl) rfl ?_ ?_
          · intro h17_4
            refine SPL_y (y_pick_f rfl rfl) rfl ?_
            refine SPL_y (y_move rfl) rfl ?_
            refine SPL_gn rfl rfl rfl rfl ?_
            refine SPL_gn rfl rfl rfl rfl ?_
            refine SPL_y (y_pick_t rfl rfl) rfl ?_
            refine SPL_y (y_move rfl) rfl ?_
            refine SPL_gn rfl rfl rfl rfl ?_
            refine SPL_gn rfl rfl rfl rfl ?_
            refine SPL_y (y_pick_t rfl rfl) rfl ?_
            refine SPL_y (y_assign rfl) rfl ?_
            refine SPL_nil ?_
            refine thenP_n ?_
            refine SP_cond_t rfl ?_
            refine SP_exit ?_
            refine thenP_exit ?_
            refine inBlockP_miss rfl ?_
            refine thenP_exit ?_
            refine inBlockP_miss rfl ?_
            refine thenP_exit ?_
            refine inBlockP_miss rfl ?_
            refine thenP_exit ?_
            refine inBlockP_miss rfl ?_
            refine thenP_exit ?_
            refine inBlockP_miss rfl ?_
            refine thenP_exit ?_
            refine inBlockP_miss rfl ?_
            refine thenP_exit ?_
            refine inBlockP_hit ?_
            refine thenP_n ?_
            have hls : lexOne src pos r = some (.tok (signAt src pos r).1 ⟨signM (signAt src pos r).2, pos, [], 0, 13⟩) := by unfold lexOne; rw [if_neg (by omega), if_neg hncm, hlt, if_neg (by decide), if_neg (by omega), if_neg h15_1]
            exact Mid.intro (61) (⟨hls, by unfold twinOf; rw [if_neg (by omega), if_pos (by omega)]⟩) (by repeat (first | exact Sub.nil _ | refine Sub.cons rfl ?_)) (by repeat (first | exact Part.nil _ | (apply Part.cons; (first | exact P0 | exact P1 | exact P2 | exact P3 | exact P4 | exact P5 | exact P6 | exact P7 | exact P8 | exact P9 | exact P10 | exact P11 | exact P12 | exact P13 | exact P14 | exact P15 | exact P16 | exact P17 | exact P18 | exact P19 | exact P20 | exact P21 | exact P22 | exact P23)) | (apply Part.flat; simp only [List.cons_append, List.nil_append]) | (apply Part.nilc)))
          intro h17_4
          refine SPL_y (y_pick_f rfl rfl) rfl ?_
          refine SPL_y (y_move rfl) rfl ?_
          refine SPL_gy rfl rfl ?_
          refine SPL_y (y_move rfl) rfl ?_
          refine SPL_gy rfl rfl ?_
          refine SPL_if (y_eql rfl rfl) rfl ?_ ?_
          · intro h17_8
            refine SPL_y (y_pick_f rfl rfl) rfl ?_
            refine SPL_y (y_move rfl) rfl ?_
            refine SPL_gn rfl rfl rfl rfl ?_
            refine SPL_gn rfl rfl rfl rfl ?_
            refine SPL_y (y_pick_t rfl rfl) rfl ?_
            refine SPL_y (y_assign rfl) rfl ?_
            refine SPL_nil ?_
            refine thenP_n ?_
            refine SP_cond_t rfl ?_
            refine SP_exit ?_
            refine thenP_exit ?_
            refine inBlockP_miss rfl ?_
            refine thenP_exit ?_
            refine inBlockP_miss rfl ?_
            refine thenP_exit ?_
            refine inBlockP_miss rfl ?_
            refine thenP_exit ?_
            refine inBlockP_miss rfl ?_
            refine thenP_exit ?_
            refine inBlockP_miss rfl ?_
            refine thenP_exit ?_
            refine inBlockP_miss rfl ?_
            refine thenP_exit ?_
            refine inBlockP_hit ?_
            refine thenP_n ?_
            have hls : lexOne src pos r = some (.tok (signAt src pos r).1 ⟨signM (signAt src pos r).2, pos, [], 0, 13⟩) := by unfold lexOne; rw [if_neg (by omega), if_neg hncm, hlt, if_neg (by decide), if_neg (by omega), if_neg h15_1]
            exact Mid.intro (61) (⟨hls, by unfold twinOf; rw [if_neg (by omega), if_pos (by omega)]⟩) (by repeat (first | exact Sub.nil _ | refine Sub.cons rfl ?_)) (by repeat (first | exact Part.nil _ | (apply Part.cons; (first | exact P0 | exact P1 | exact P2 | exact P3 | exact P4 | exact P5 | exact P6 | exact P7 | exact P8 | exact P9 | exact P10 | exact P11 | exact P12 | exact P13 | exact P14 | exact P15 | exact P16 | exact P17 | exact P18 | exact P19 | exact P20 | exact P21 | exact P22 | exact P23)) | (apply Part.flat; simp only [List.cons_append, List.nil_append]) | (apply Part.nilc)))
          intro h17_8
          refine SPL_y (y_pick_f rfl rfl) rfl ?_
          refine SPL_y (y_move rfl) rfl ?_
          refine SPL_gy rfl rfl ?_
          refine SPL_y (y_move rfl) rfl ?_
          refine SPL_gy rfl rfl ?_
          refine SPL_if (y_eql rfl rfl) rfl ?_ ?_
          · intro h17_12
            refine SPL_y (y_pick_f rfl rfl) rfl ?_
            refine SPL_y (y_assign rfl) rfl ?_
            refine SPL_nil ?_
            refine thenP_n ?_
            refine SP_cond_t rfl ?_
            refine SP_exit ?_
            refine thenP_exit ?_
            refine inBlockP_miss rfl ?_
            refine thenP_exit ?_
            refine inBlockP_miss rfl ?_
            refine thenP_exit ?_
            refine inBlockP_miss rfl ?_
            refine thenP_exit ?_
            refine inBlockP_miss rfl ?_
            refine thenP_exit ?_
            refine inBlockP_miss rfl ?_
            refine thenP_exit ?_
            refine inBlockP_miss rfl ?_
            refine thenP_exit ?_
            refine inBlockP_hit ?_
            refine thenP_n ?_
            have hls : lexOne src pos r = some (.tok (signAt src pos r).1 ⟨signM (signAt src pos r).2, pos, [], 0, 13⟩) := by unfold lexOne; rw [if_neg (by omega), if_neg hncm, hlt, if_neg (by decide), if_neg (by omega), if_neg h15_1]
            exact Mid.intro (61) (⟨hls, by unfold twinOf; rw [if_neg (by omega), if_pos (by omega)]⟩) (by repeat (first | exact Sub.nil _ | refine Sub.cons rfl ?_)) (by repeat (first | exact Part.nil _ | (apply Part.cons; (first | exact P0 | exact P1 | exact P2 | exact P3 | exact P4 | exact P5 | exact P6 | exact P7 | exact P8 | exact P9 | exact P10 | exact P11 | exact P12 | exact P13 | exact P14 | exact P15 | exact P16 | exact P17 | exact P18 | exact P19 | exact P20 | exact P21 | exact P22 | exact P23)) | (apply Part.flat; simp only [List.cons_append, List.nil_append]) | (apply Part.nilc)))
          intro h17_12
          refine SPL_y (y_pick_f rfl rfl) rfl ?_
          refine SPL_y (y_assign rfl) rfl ?_
          refine SPL_nil ?_
          refine thenP_n ?_
          refine SP_cond_f rfl ?_
          refine SP_skip ?_
          refine thenP_n ?_
          refine SP_exit ?_
          refine inBlockP_miss rfl ?_
          refine thenP_exit ?_
          refine inBlockP_miss rfl ?_
          refine thenP_exit ?_
          refine inBlockP_miss rfl ?_
          refine thenP_exit ?_
          refine inBlockP_miss rfl ?_
          refine thenP_exit ?_
          refine inBlockP_miss rfl ?_
          refine thenP_exit ?_
          refine inBlockP_miss rfl ?_
          refine thenP_exit ?_
          refine inBlockP_miss rfl ?_
          refine thenP_exit ?_
          refine inBlockP_hit ?_
          refine thenP_n ?_
          have hls : lexOne src pos r = some (.tok (signAt src pos r).1 ⟨signM (signAt src pos r).2, pos, [], 0, 13⟩) := by unfold lexOne; rw [if_neg (by omega), if_neg hncm, hlt, if_neg (by decide), if_neg (by omega), if_neg h15_1]
          exact Mid.intro ((pos + 1, encR r)) (⟨hls, by unfold signAt twinOf; rw [if_neg (by omega), if_neg (by omega)], by dsimp only; omega⟩) (by repeat (first | exact Sub.nil _ | refine Sub.cons rfl ?_)) (by repeat (first | exact Part.nil _ | (apply Part.cons; (first | exact P0 | exact P1 | exact P2 | exact P3 | exact P4 | exact P5 | exact P6 | exact P7 | exact P8 | exact P9 | exact P10 | exact P11 | exact P12 | exact P13 | exact P14 | exact P15 | exact P16 | exact P17 | exact P18 | exact P19 | exact P20 | exact P21 | exact P22 | exact P23)) | (apply Part.flat; simp only [List.cons_append, List.nil_append]) | (apply Part.nilc)))
        · refine SPL_y (y_assign rfl) rfl ?_
          refine SPL_nil ?_
          refine thenP_n ?_
          refine SP_cond_t rfl ?_
          refine SP_exit ?_
          refine thenP_exit ?_
          refine thenP_exit ?_
          refine inBlockP_miss rfl ?_
          refine thenP_exit ?_
          refine inBlockP_miss rfl ?_
          refine thenP_exit ?_
          refine inBlockP_hit ?_
          refine thenP_n ?_
          refine SP_seq ?_
          refine SP_seq ?_
          refine SP_region ?_
          have hrl := runF_le (p := wordM) (src := src) (i := pos) (by omega)
          refine SPL_y (y_move rfl) rfl ?_
          refine SPL_y (y_move rfl) rfl ?_
          refine SPL_one rfl (SP1_call (lx_words src hs pos) Tryz.call120 rfl rfl (by repeat (first | exact Part.nil _ | (apply Part.cons; (first | exact P0 | exact P1 | exact P2 | exact P3 | exact P4 | exact P5 | exact P6 | exact P7 | exact P8 | exact P9 | exact P10 | exact P11 | exact P12 | exact P13 | exact P14 | exact P15 | exact P16 | exact P17 | exact P18 | exact P19 | exact P20 | exact P21 | exact P22 | exact P23)) | (apply Part.flat; simp only [List.cons_append, List.nil_append]) | (apply Part.nilc))) ?_)
          rintro v post H' ⟨rfl, rfl⟩ hH
          try simp only [List.cons_append, List.nil_append] at hH
          subst hH
          refine SPL_y (y_assign rfl) rfl ?_
          refine SPL_nil ?_
          refine thenP_n ?_
          refine SP_seq ?_
          refine SP_region ?_
          refine SPL_y (y_move rfl) rfl ?_
          refine SPL_y (y_move rfl) rfl ?_
          refine SPL_y (y_sub rfl rfl (by omega)) rfl ?_
          refine SPL_ifn (y_leq rfl rfl) rfl ?_ ?_
          · intro h20_3
            refine SPL_nil ?_
            refine thenP_n ?_
            refine SP_cond_f rfl ?_
            refine SP_skip ?_
            refine thenP_n ?_
            refine SP_exit ?_
            refine inBlockP_miss rfl ?_
            refine thenP_exit ?_
            refine inBlockP_miss rfl ?_
            refine thenP_exit ?_
            refine inBlockP_miss rfl ?_
            refine thenP_exit ?_
            refine inBlockP_miss rfl ?_
            refine thenP_exit ?_
            refine inBlockP_miss rfl ?_
            refine thenP_exit ?_
            refine inBlockP_hit ?_
            refine thenP_n ?_
            have hlr2 := hlr
            unfold lexOne at hlr2
            rw [if_neg (by omega), if_neg hncm, if_pos hlt] at hlr2
            exact Mid.intro ((runF wordM src pos, ⟨1, pos, [], 0, 14⟩)) (⟨by rw [hlr, ← hlr2, wordAt, if_neg h20_3], by dsimp only; omega⟩) (by repeat (first | exact Sub.nil _ | refine Sub.cons rfl ?_)) (by repeat (first | exact Part.nil _ | (apply Part.cons; (first | exact P0 | exact P1 | exact P2 | exact P3 | exact P4 | exact P5 | exact P6 | exact P7 | exact P8 | exact P9 | exact P10 | exact P11 | exact P12 | exact P13 | exact P14 | exact P15 | exact P16 | exact P17 | exact P18 | exact P19 | exact P20 | exact P21 | exact P22 | exact P23)) | (apply Part.flat; simp only [List.cons_append, List.nil_append]) | (apply Part.nilc)))
          intro h20_3
          refine SPL_nil ?_
          refine thenP_n ?_
          refine SP_cond_t rfl ?_
          refine SP_seq ?_
          refine SP_region ?_
          refine SPL_y (y_move rfl) rfl ?_
          refine SPL_y (y_move rfl) rfl ?_
          refine SPL_y (y_move rfl) rfl ?_
          refine SPL_y (y_str_lh Tryz.underlying9 rfl rfl rfl (by omega)) rfl ?_
          refine SPL_y (y_fa fld_156_2 rfl) rfl ?_
          refine SPL_one rfl (SP1_store Tryz.sizeOf9 rfl rfl rfl (by first | exact U0 | exact U1 | exact U2 | exact U3 | exact U4 | exact U5 | exact U6 | exact U7 | exact U8 | exact U9 | exact U10 | exact U11 | exact U12 | exact U13 | exact U14 | exact U15 | exact U16 | exact U17 | exact U18 | exact U19 | exact U20 | exact U21 | exact U22 | exact U23) (by rfl) ?_)
          refine SPL_nil ?_
          refine thenP_n ?_
          refine SP_region ?_
          refine SPL_y (y_fa fld_156_2 rfl) rfl ?_
          refine SPL_y (y_load Tryz.isAgg9 rfl (by repeat (first | exact Cell.amid hpre rfl | exact Cell.head rfl | apply Cell.tail))) rfl ?_
          refine SPL_one rfl (SP1_call (lx_keyword gs hG (cutS src pos (runF wordM src pos))) Tryz.call121 rfl rfl (by repeat (first | exact Part.nil _ | (apply Part.cons; (first | exact P0 | exact P1 | exact P2 | exact P3 | exact P4 | exact P5 | exact P6 | exact P7 | exact P8 | exact P9 | exact P10 | exact P11 | exact P12 | exact P13 | exact P14 | exact P15 | exact P16 | exact P17 | exact P18 | exact P19 | exact P20 | exact P21 | exact P22 | exact P23)) | (apply Part.flat; simp only [List.cons_append, List.nil_append]) | (apply Part.nilc))) ?_)
          rintro v post H' ⟨rfl, rfl⟩ hH
          try simp only [List.cons_append, List.nil_append] at hH
          subst hH
          refine SPL_y (y_fa fld_156_0 rfl) rfl ?_
          refine SPL_one rfl (SP1_store Tryz.sizeOf154 rfl rfl rfl (by first | exact U0 | exact U1 | exact U2 | exact U3 | exact U4 | exact U5 | exact U6 | exact U7 | exact U8 | exact U9 | exact U10 | exact U11 | exact U12 | exact U13 | exact U14 | exact U15 | exact U16 | exact U17 | exact U18 | exact U19 | exact U20 | exact U21 | exact U22 | exact U23) (by rfl) ?_)
          refine SPL_nil ?_
          refine thenP_n ?_
          refine SP_exit ?_
          refine inBlockP_miss rfl ?_
          refine thenP_exit ?_
          refine inBlockP_miss rfl ?_
          refine thenP_exit ?_
          refine inBlockP_miss rfl ?_
          refine thenP_exit ?_
          refine inBlockP_miss rfl ?_
          refine thenP_exit ?_
          refine inBlockP_miss rfl ?_
          refine thenP_exit ?_
          refine inBlockP_hit ?_
          refine thenP_n ?_
          have hlr2 := hlr
          unfold lexOne at hlr2
          rw [if_neg (by omega), if_neg hncm, if_pos hlt] at hlr2
          exact Mid.intro ((runF wordM src pos, ⟨keywordM (cutS src pos (runF wordM src pos)), pos, cutS src pos (runF wordM src pos), 0, 14⟩)) (⟨by rw [hlr, ← hlr2, wordAt, if_pos h20_3], by dsimp only; omega⟩) (by repeat (first | exact Sub.nil _ | refine Sub.cons rfl ?_)) (by repeat (first | exact Part.nil _ | (apply Part.cons; (first | exact P0 | exact P1 | exact P2 | exact P3 | exact P4 | exact P5 | exact P6 | exact P7 | exact P8 | exact P9 | exact P10 | exact P11 | exact P12 | exact P13 | exact P14 | exact P15 | exact P16 | exact P17 | exact P18 | exact P19 | exact P20 | exact P21 | exact P22 | exact P23)) | (apply Part.flat; simp only [List.cons_append, List.nil_append]) | (apply Part.nilc)))
      rintro tw ⟨hls, htw⟩
      have hgd2 : ∀ q : pos + 1 < src.length, src.getD (pos + 1) 0 = src[pos + 1] := fun q => by rw [List.getD_eq_getElem?_getD, List.getElem?_eq_getElem q]; rfl
      refine SP_seq ?_
      refine SP_region ?_
      refine SPL_y (y_move rfl) rfl ?_
      refine SPL_y (y_move rfl) rfl ?_
      refine SPL_y (y_len_s Tryz.underlying9 rfl) rfl ?_
      refine SPL_ifn (y_lss rfl rfl) rfl ?_ ?_
      · intro h33_3
        refine SPL_y (y_move rfl) rfl ?_
        refine SPL_gn rfl rfl rfl rfl ?_
        refine SPL_gn rfl rfl rfl rfl ?_
        refine SPL_gn rfl rfl rfl rfl ?_
        refine SPL_gn rfl rfl rfl rfl ?_
        refine SPL_gn rfl rfl rfl rfl ?_
        refine SPL_y (y_pick_f rfl rfl) rfl ?_
        refine SPL_nil ?_
        refine thenP_n ?_
        refine SP_cond_f rfl ?_
        refine SP_skip ?_
        refine inBlockP_n ?_
        refine thenP_n ?_
        exact Mid.intro ((pos + 1, encR r)) (⟨hls, by unfold signAt; rw [htw]; dsimp only; rw [if_neg (fun q => by omega)], by dsimp only; omega⟩) (by repeat (first | exact Sub.nil _ | refine Sub.cons rfl ?_)) (by repeat (first | exact Part.nil _ | (apply Part.cons; (first | exact P0 | exact P1 | exact P2 | exact P3 | exact P4 | exact P5 | exact P6 | exact P7 | exact P8 | exact P9 | exact P10 | exact P11 | exact P12 | exact P13 | exact P14 | exact P15 | exact P16 | exact P17 | exact P18 | exact P19 | exact P20 | exact P21 | exact P22 | exact P23)) | (apply Part.flat; simp only [List.cons_append, List.nil_append]) | (apply Part.nilc)))
      intro h33_3
      refine SPL_y (y_move rfl) rfl ?_
      refine SPL_gy rfl rfl ?_
      refine SPL_y (y_move rfl) rfl ?_
      refine SPL_gy rfl rfl ?_
      refine SPL_y (y_move rfl) rfl ?_
      refine SPL_gy rfl rfl ?_
      refine SPL_y (y_idx_s Tryz.underlying9 rfl rfl (by omega) (getN (by omega))) rfl ?_
      refine SPL_gy rfl rfl ?_
      refine SPL_y (y_move rfl) rfl ?_
      refine SPL_gy rfl rfl ?_
      refine SPL_ifn (y_eql rfl rfl) rfl ?_ ?_
      · intro h33_9
        refine SPL_y (y_pick_t rfl rfl) rfl ?_
        refine SPL_nil ?_
        refine thenP_n ?_
        refine SP_cond_f rfl ?_
        refine SP_skip ?_
        refine inBlockP_n ?_
        refine thenP_n ?_
        exact Mid.intro ((pos + 1, encR r)) (⟨hls, by unfold signAt; rw [htw]; dsimp only; rw [if_neg (fun q => h33_9 (by rw [← hgd2 (by omega)]; exact q.2))], by dsimp only; omega⟩) (by repeat (first | exact Sub.nil _ | refine Sub.cons rfl ?_)) (by repeat (first | exact Part.nil _ | (apply Part.cons; (first | exact P0 | exact P1 | exact P2 | exact P3 | exact P4 | exact P5 | exact P6 | exact P7 | exact P8 | exact P9 | exact P10 | exact P11 | exact P12 | exact P13 | exact P14 | exact P15 | exact P16 | exact P17 | exact P18 | exact P19 | exact P20 | exact P21 | exact P22 | exact P23)) | (apply Part.flat; simp only [List.cons_append, List.nil_append]) | (apply Part.nilc)))
      intro h33_9
      refine SPL_y (y_pick_t rfl rfl) rfl ?_
      refine SPL_nil ?_
      refine thenP_n ?_
      refine SP_cond_t rfl ?_
      refine SP_seq ?_
      refine SP_region ?_
      refine SPL_y (y_move rfl) rfl ?_
      refine SPL_y (y_addE rfl rfl (c := ((pos + 2 : Nat) : Int)) (by omega) (by omega)) rfl ?_
      refine SPL_y (y_assign rfl) rfl ?_
      refine SPL_nil ?_
      refine thenP_n ?_
      refine SP_region ?_
      refine SPL_y (y_move rfl) rfl ?_
      refine SPL_y (y_move rfl) rfl ?_
      refine SPL_y (y_move rfl) rfl ?_
      refine SPL_y (y_str_lh Tryz.underlying9 rfl rfl rfl (by omega)) rfl ?_
      refine SPL_y (y_assign rfl) rfl ?_
      refine SPL_nil ?_
      refine inBlockP_n ?_
      refine thenP_n ?_
      exact Mid.intro ((pos + 2, cutS src pos (pos + 2))) (⟨hls, by unfold signAt; rw [htw]; dsimp only; rw [if_pos ⟨by omega, by rw [hgd2 (by omega)]; exact h33_9⟩], by dsimp only; omega⟩) (by repeat (first | exact Sub.nil _ | refine Sub.cons rfl ?_)) (by repeat (first | exact Part.nil _ | (apply Part.cons; (first | exact P0 | exact P1 | exact P2 | exact P3 | exact P4 | exact P5 | exact P6 | exact P7 | exact P8 | exact P9 | exact P10 | exact P11 | exact P12 | exact P13 | exact P14 | exact P15 | exact P16 | exact P17 | exact P18 | exact P19 | exact P20 | exact P21 | exact P22 | exact P23)) | (apply Part.flat; simp only [List.cons_append, List.nil_append]) | (apply Part.nilc)))
    rintro ⟨e7, tx⟩ ⟨hlrs0, hsg, he7⟩
    dsimp only at he7 ⊢
    rw [← hsg] at hlrs0
    dsimp only at hlrs0
    refine SP_seq ?_
    refine SP_seq ?_
    refine SP_region ?_
    refine SPL_y (y_move rfl) rfl ?_
    refine SPL_one rfl (SP1_call (lx_sign gs hG tx) Tryz.call124 rfl rfl (by repeat (first | exact Part.nil _ | (apply Part.cons; (first | exact P0 | exact P1 | exact P2 | exact P3 | exact P4 | exact P5 | exact P6 | exact P7 | exact P8 | exact P9 | exact P10 | exact P11 | exact P12 | exact P13 | exact P14 | exact P15 | exact P16 | exact P17 | exact P18 | exact P19 | exact P20 | exact P21 | exact P22 | exact P23)) | (apply Part.flat; simp only [List.cons_append, List.nil_append]) | (apply Part.nilc))) ?_)
    rintro v post H' ⟨rfl, rfl⟩ hH
    try simp only [List.cons_append, List.nil_append] at hH
    subst hH
    refine SPL_y (y_fa fld_156_0 rfl) rfl ?_
    refine SPL_one rfl (SP1_store Tryz.sizeOf154 rfl rfl rfl (by first | exact U0 | exact U1 | exact U2 | exact U3 | exact U4 | exact U5 | exact U6 | exact U7 | exact U8 | exact U9 | exact U10 | exact U11 | exact U12 | exact U13 | exact U14 | exact U15 | exact U16 | exact U17 | exact U18 | exact U19 | exact U20 | exact U21 | exact U22 | exact U23) (by rfl) ?_)
    refine SPL_nil ?_
    refine thenP_n ?_
    refine SP_region ?_
    refine SPL_y (y_fa fld_156_4 rfl) rfl ?_
    refine SPL_one rfl (SP1_store Tryz.sizeOf30 rfl rfl rfl (by first | exact U0 | exact U1 | exact U2 | exact U3 | exact U4 | exact U5 | exact U6 | exact U7 | exact U8 | exact U9 | exact U10 | exact U11 | exact U12 | exact U13 | exact U14 | exact U15 | exact U16 | exact U17 | exact U18 | exact U19 | exact U20 | exact U21 | exact U22 | exact U23) (by rfl) ?_)
    refine SPL_nil ?_
    refine thenP_n ?_
    refine SP_exit ?_
    refine inBlockP_hit ?_
    refine thenP_n ?_
    exact Mid.intro ((e7, ⟨signM tx, pos, [], 0, 13⟩)) (⟨hlrs0, by dsimp only; omega⟩) (by repeat (first | exact Sub.nil _ | refine Sub.cons rfl ?_)) (by repeat (first | exact Part.nil _ | (apply Part.cons; (first | exact P0 | exact P1 | exact P2 | exact P3 | exact P4 | exact P5 | exact P6 | exact P7 | exact P8 | exact P9 | exact P10 | exact P11 | exact P12 | exact P13 | exact P14 | exact P15 | exact P16 | exact P17 | exact P18 | exact P19 | exact P20 | exact P21 | exact P22 | exact P23)) | (apply Part.flat; simp only [List.cons_append, List.nil_append]) | (apply Part.nilc)))
  rintro ⟨e9, t9⟩ ⟨hlr, he9⟩
  dsimp only at hlr he9 ⊢
  obtain ⟨tk, ta9, tx9, tb9, te9⟩ := t9
  dsimp only [tokV]
  rw [hlr] at hsc
  dsimp only at hsc
  refine SP_seq ?_
  refine SP_seq ?_
  refine SP_region ?_
  refine SPL_y (y_fa fld_156_0 rfl) rfl ?_
  refine SPL_y (y_load Tryz.isAgg154 rfl (by repeat (first | exact Cell.amid hpre rfl | exact Cell.head rfl | apply Cell.tail))) rfl ?_
  refine SPL_ifn (y_eql rfl rfl) rfl ?_ ?_
  · intro h38_2
    refine SPL_nil ?_
    refine thenP_n ?_
    refine SP_cond_f rfl ?_
    refine SP_skip ?_
    refine thenP_n ?_
    refine SP_seq ?_
    refine SP_region ?_
    refine SPL_y (y_fa fld_156_4 rfl) rfl ?_
    refine SPL_one rfl (SP1_store Tryz.sizeOf30 rfl rfl rfl (by first | exact U0 | exact U1 | exact U2 | exact U3 | exact U4 | exact U5 | exact U6 | exact U7 | exact U8 | exact U9 | exact U10 | exact U11 | exact U12 | exact U13 | exact U14 | exact U15 | exact U16 | exact U17 | exact U18 | exact U19 | exact U20 | exact U21 | exact U22 | exact U23) (by rfl) ?_)
    refine SPL_nil ?_
    refine thenP_n ?_
    refine SP_region ?_
    refine SPL_y (y_move rfl) rfl ?_
    refine SPL_y (y_loads Tryz.isAgg156 Tryz.sizeOf156 rfl rfl (by repeat (first | exact Cells.all _ | exact Cells.amid hpre rfl (by decide) | exact Cells.head rfl | apply Cells.tail))) rfl ?_
    refine SPL_one rfl (SP1_slice1 el_104 rfl rfl rfl rfl rfl ?_)
    intro b202
    refine SPL_one rfl (SP1_append el_104 (.inl Tryz.underlying104) rfl rfl h1 (by first | exact P0 | exact P1 | exact P2 | exact P3 | exact P4 | exact P5 | exact P6 | exact P7 | exact P8 | exact P9 | exact P10 | exact P11 | exact P12 | exact P13 | exact P14 | exact P15 | exact P16 | exact P17 | exact P18 | exact P19 | exact P20 | exact P21 | exact P22 | exact P23) (Src.of (by repeat (first | exact Cells.all _ | exact Cells.amid hpre rfl (by decide) | exact Cells.head rfl | apply Cells.tail)) (by rfl)) (by rfl) (by omega) rfl ?_)
    intro a2 c2 s2 h2
    refine SPL_y (y_assign rfl) rfl ?_
    refine SPL_nil ?_
    refine inBlockP_n ?_
    refine thenP_n ?_
    rw [if_neg h38_2] at hsc
    have hnext := hsc
    exact Again.intro ((n, pos + (runeAt src pos).2, e9, toks ++ [⟨tk, ta9, tx9, tb9, 0⟩], a2, c2, s2, toks.length + 1)) (⟨by dsimp only; rw [List.flatMap_append, List.length_append]; exact h2, hnext, by dsimp only; omega, by simp⟩) (by dsimp only; omega) (by repeat (first | exact Sub.nil _ | refine Sub.cons rfl ?_)) (by repeat (first | exact Part.nil _ | (apply Part.cons; (first | exact P0 | exact P1 | exact P2 | exact P3 | exact P4 | exact P5 | exact P6 | exact P7 | exact P8 | exact P9 | exact P10 | exact P11 | exact P12 | exact P13 | exact P14 | exact P15 | exact P16 | exact P17 | exact P18 | exact P19 | exact P20 | exact P21 | exact P22 | exact P23)) | (apply Part.flat; simp only [List.cons_append, List.nil_append]) | (apply Part.nilc)))
  intro h38_2
  refine SPL_nil ?_
  refine thenP_n ?_
  refine SP_cond_t rfl ?_
  refine SP_seq ?_
  refine SP_region ?_
  refine SPL_y (y_loads Tryz.isAgg156 Tryz.sizeOf156 rfl rfl (by repeat (first | exact Cells.all _ | exact Cells.amid hpre rfl (by decide) | exact Cells.head rfl | apply Cells.tail))) rfl ?_
  refine SPL_one rfl (SP1_storeAll Tryz.sizeOf156 rfl rfl rfl rfl rfl (by first | exact U0 | exact U1 | exact U2 | exact U3 | exact U4 | exact U5 | exact U6 | exact U7 | exact U8 | exact U9 | exact U10 | exact U11 | exact U12 | exact U13 | exact U14 | exact U15 | exact U16 | exact U17 | exact U18 | exact U19 | exact U20 | exact U21 | exact U22 | exact U23) (by rfl) ?_)
  refine SPL_nil ?_
  refine thenP_n ?_
  refine SP_exit ?_
  refine thenP_exit ?_
  refine inBlockP_miss rfl ?_
  refine thenP_exit ?_
  refine inBlockP_hit ?_
  refine thenP_n ?_
  rw [if_pos h38_2] at hsc
  cases hsc
  refine SP_region ?_
  refine SPL_y (y_move rfl) rfl ?_
  refine SPL_y (y_move rfl) rfl ?_
  refine SPL_y (y_loads Tryz.isAgg156 Tryz.sizeOf156 rfl rfl (by repeat (first | exact Cells.all _ | exact Cells.amid hpre rfl (by decide) | exact Cells.head rfl | apply Cells.tail))) rfl ?_
  refine SPL_one rfl (SP1_slice1 el_104 rfl rfl rfl rfl rfl ?_)
  intro b207
  refine SPL_one rfl (SP1_append el_104 (.inl Tryz.underlying104) rfl rfl h1 (by first | exact P0 | exact P1 | exact P2 | exact P3 | exact P4 | exact P5 | exact P6 | exact P7 | exact P8 | exact P9 | exact P10 | exact P11 | exact P12 | exact P13 | exact P14 | exact P15 | exact P16 | exact P17 | exact P18 | exact P19 | exact P20 | exact P21 | exact P22 | exact P23) (Src.of (by repeat (first | exact Cells.all _ | exact Cells.amid hpre rfl (by decide) | exact Cells.head rfl | apply Cells.tail)) (by rfl)) (by rfl) (by omega) rfl ?_)
  intro a2 c2 s2 h2
  refine SPL_y (y_nil rfl) rfl ?_
  refine SPL_y (y_fa fld_106_1 rfl) rfl ?_
  refine SPL_one rfl (SP1_store Tryz.sizeOf104 rfl rfl rfl (by first | exact U0 | exact U1 | exact U2 | exact U3 | exact U4 | exact U5 | exact U6 | exact U7 | exact U8 | exact U9 | exact U10 | exact U11 | exact U12 | exact U13 | exact U14 | exact U15 | exact U16 | exact U17 | exact U18 | exact U19 | exact U20 | exact U21 | exact U22 | exact U23) (by rfl) ?_)
  refine SPL_nil ?_
  refine noGotoP_n ?_
  refine bodyP_end (H' := [gs, blk sx 106 [nv, .slice a2 (toks.length + 1) c2, ns], s2]) (Res0 rfl) (by repeat (first | exact Part.nil _ | (apply Part.cons; (first | exact P0 | exact P1 | exact P2 | exact P3 | exact P4 | exact P5 | exact P6 | exact P7 | exact P8 | exact P9 | exact P10 | exact P11 | exact P12 | exact P13 | exact P14 | exact P15 | exact P16 | exact P17 | exact P18 | exact P19 | exact P20 | exact P21 | exact P22 | exact P23)) | (apply Part.flat; simp only [List.cons_append, List.nil_append]) | (apply Part.nilc))) ?_
  refine ⟨rfl, a2, c2, s2, ?_, by simp⟩
  rw [List.flatMap_append, List.length_append]
  exact h2

end Go.Sl
