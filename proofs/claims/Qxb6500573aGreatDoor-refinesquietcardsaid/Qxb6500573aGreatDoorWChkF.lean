/- Walks: package table, CheckMid (made by program out of short notes) -/
import Derived.Test.Qxb6500573aGreatDoorCK3
namespace Go.Sl
open Go Go.Wl Go.Nm Go.Proofs
set_option maxRecDepth 100000
set_option linter.unusedVariables false
set_option linter.unusedSimpArgs false
set_option maxHeartbeats 4000000 in
theorem tab_CheckMid (b nb tb tl tc j : Nat) (cnt : Int) (c0 c2 : List Value) (hpre : c0.length = 0 + ((j : Nat) : Int).toNat * 6) (hj : j < tl) (t : Tb) (oa aa : Option Addr) (oc ac mn ms mr : Nat) (so sa sn ss sr : Seg) (ho : Arr 257 6 oa t.order.length oc (t.order.flatMap entV) so) (ha : Arr 21 1 aa t.arr.length ac (t.arr.map i32V) sa) (hn : isMap u64K i32V mn t.nums sn) (hs : isMap S i32V ms t.strs ss) (hr : isMap u64K i32V mr t.refs sr) (hX : TbX t) (hN : NNr t.order) (hW : ∀ e, e ∈ t.order → well e.1 = true ∧ well e.2 = true ∧ isNilV e.1 = false) : Spec Tryz.prog 176 [.pointer (some ⟨b, 0, none⟩), I ((j : Nat) : Int)] [blk b 103 [.pointer (some ⟨nb, 0, none⟩), .slice (some ⟨tb, 0, none⟩) tl tc, I cnt], blk tb 245 (c0 ++ [.slice oa t.order.length oc, .slice aa t.arr.length ac, .map (some mn), .map (some ms), .map (some mr), I t.dead] ++ c2), so, sa, sn, ss, sr] (Ret fun v H => v = .bool true ∧ ∃ sn' ss' sr', isMap u64K i32V mn t.nums sn' ∧ isMap S i32V ms t.strs ss' ∧ isMap u64K i32V mr t.refs sr' ∧ H = [blk b 103 [.pointer (some ⟨nb, 0, none⟩), .slice (some ⟨tb, 0, none⟩) tl tc, I cnt], blk tb 245 (c0 ++ [.slice oa t.order.length oc, .slice aa t.arr.length ac, .map (some mn), .map (some ms), .map (some mr), I t.dead] ++ c2), so, sa, sn', ss', sr']) := by
  obtain ⟨hle1, hle2, hle3, hle4, hle5, hsum⟩ := hX.le
  refine Spec_enterM Tryz.func176 rfl Tryz.ntmps176 rfl ?_
  show SP _ _ _ _ _ [(0, _), (1, _)] _
  refine SP_seq ?_
  refine SP_region ?_
  refine SPL_one rfl (SP1_alloc Tryz.zeroValue4 rfl rfl ?_)
  intro b4
  refine SPL_nil ?_
  refine thenP_n ?_
  refine SP_seq ?_
  refine SP_seq ?_
  refine SP_region ?_
  refine SPL_y (y_move rfl) rfl ?_
  refine SPL_if (y_lss rfl rfl) rfl ?_ ?_
  · intro h1_1
    omega
  intro h1_1
  refine SPL_y (y_move rfl) rfl ?_
  refine SPL_gy rfl rfl ?_
  refine SPL_y (y_move rfl) rfl ?_
  refine SPL_gy rfl rfl ?_
  refine SPL_y (y_move rfl) rfl ?_
  refine SPL_gy rfl rfl ?_
  refine SPL_y (y_nil rfl) rfl ?_
  refine SPL_gy rfl rfl ?_
  refine SPL_y (y_fa fld_103_1 rfl) rfl ?_
  refine SPL_gy rfl rfl ?_
  refine SPL_y (y_load Tryz.isAgg101 rfl (by repeat (first | exact Cell.amid hpre rfl | exact Cell.head rfl | apply Cell.tail))) rfl ?_
  refine SPL_gy rfl rfl ?_
  refine SPL_y (y_len_l Tryz.underlying101 rfl) rfl ?_
  refine SPL_gy rfl rfl ?_
  refine SPL_if (y_geq rfl rfl) rfl ?_ ?_
  · intro h1_9
    omega
  intro h1_9
  refine SPL_y (y_pick_f rfl rfl) rfl ?_
  refine SPL_nil ?_
  refine thenP_n ?_
  refine SP_cond_f rfl ?_
  refine SP_skip ?_
  refine thenP_n ?_
  refine SP_seq ?_
  refine SP_region ?_
  refine SPL_y (y_move rfl) rfl ?_
  refine SPL_y (y_nil rfl) rfl ?_
  refine SPL_y (y_fa fld_103_1 rfl) rfl ?_
  refine SPL_y (y_load Tryz.isAgg101 rfl (by repeat (first | exact Cell.amid hpre rfl | exact Cell.head rfl | apply Cell.tail))) rfl ?_
  refine SPL_y (y_move rfl) rfl ?_
  refine SPL_y (y_ia Tryz.underlying101 Tryz.sizeOf245 rfl rfl (by omega)) rfl ?_
  refine SPL_y (y_assign rfl) rfl ?_
  refine SPL_nil ?_
  refine thenP_n ?_
  refine SP_seq ?_
  refine SP_seq ?_
  refine SP_region ?_
  refine SPL_y (y_move rfl) rfl ?_
  refine SPL_y (y_nil rfl) rfl ?_
  refine SPL_y (y_fa fld_245_2 rfl) rfl ?_
  refine SPL_y (y_load Tryz.isAgg242 rfl (by repeat (first | exact Cell.amid hpre rfl | exact Cell.head rfl | apply Cell.tail))) rfl ?_
  refine SPL_y (y_mapNil (by kernel_rfl) Tryz.underlying242 rfl rfl) rfl ?_
  refine SPL_y (y_move rfl) rfl ?_
  refine SPL_gy rfl rfl ?_
  refine SPL_y (y_move rfl) rfl ?_
  refine SPL_gy rfl rfl ?_
  refine SPL_y (y_nil rfl) rfl ?_
  refine SPL_gy rfl rfl ?_
  refine SPL_y (y_fa fld_245_3 rfl) rfl ?_
  refine SPL_gy rfl rfl ?_
  refine SPL_y (y_load Tryz.isAgg243 rfl (by repeat (first | exact Cell.amid hpre rfl | exact Cell.head rfl | apply Cell.tail))) rfl ?_
  refine SPL_gy rfl rfl ?_
  refine SPL_y (y_mapNil (by kernel_rfl) Tryz.underlying243 rfl rfl) rfl ?_
  refine SPL_y (y_pick_f rfl rfl) rfl ?_
  refine SPL_y (y_move rfl) rfl ?_
  refine SPL_gy rfl rfl ?_
  refine SPL_y (y_move rfl) rfl ?_
  refine SPL_gy rfl rfl ?_
  refine SPL_y (y_nil rfl) rfl ?_
  refine SPL_gy rfl rfl ?_
  refine SPL_y (y_fa fld_245_4 rfl) rfl ?_
  refine SPL_gy rfl rfl ?_
  refine SPL_y (y_load Tryz.isAgg242 rfl (by repeat (first | exact Cell.amid hpre rfl | exact Cell.head rfl | apply Cell.tail))) rfl ?_
  refine SPL_gy rfl rfl ?_
  refine SPL_y (y_mapNil (by kernel_rfl) Tryz.underlying242 rfl rfl) rfl ?_
  refine SPL_y (y_pick_f rfl rfl) rfl ?_
  refine SPL_y (y_move rfl) rfl ?_
  refine SPL_gy rfl rfl ?_
  refine SPL_y (y_move rfl) rfl ?_
  refine SPL_gy rfl rfl ?_
  refine SPL_y (y_nil rfl) rfl ?_
  refine SPL_gy rfl rfl ?_
  refine SPL_y (y_fa fld_245_0 rfl) rfl ?_
  refine SPL_gy rfl rfl ?_
  refine SPL_y (y_load Tryz.isAgg240 rfl (by repeat (first | exact Cell.amid hpre rfl | exact Cell.head rfl | apply Cell.tail))) rfl ?_
  refine SPL_gy rfl rfl ?_
  refine SPL_y (y_len_l Tryz.underlying240 rfl) rfl ?_
  refine SPL_gy rfl rfl ?_
  refine SPL_if (y_gtr rfl rfl) rfl ?_ ?_
  · intro h4_25
    omega
  intro h4_25
  refine SPL_y (y_pick_f rfl rfl) rfl ?_
  refine SPL_nil ?_
  refine thenP_n ?_
  refine SP_cond_f rfl ?_
  refine SP_skip ?_
  refine thenP_n ?_
  refine SP_seq ?_
  refine SP_seq ?_
  refine SP_draw 999 [(0, 0), (1, 0), (2, 0), (5, 0), (6, 0), (7, 0), (11, 0), (12, 0), (13, 0), (17, 0), (18, 0), (19, 0), (23, 0), (24, 0), (25, 0), (3, 1), (4, 0), (8, 1), (9, 1), (10, 0), (14, 1), (15, 1), (16, 0), (20, 1), (21, 1), (22, 0), (26, 1), (27, 0), (28, 0)] mixed (by kernel_rfl) (fun _ _ _ _ _ h => h) (Part.refl _) ?_
  refine SPO_p rfl (y_move rfl) rfl ?_
  refine SPO_p rfl (y_nil rfl) rfl ?_
  refine SPO_p rfl (y_fa fld_245_1 rfl) rfl ?_
  refine SPO_p rfl (y_move rfl) rfl ?_
  refine SPO_p rfl (y_nil rfl) rfl ?_
  refine SPO_p rfl (y_fa fld_245_2 rfl) rfl ?_
  refine SPO_p rfl (y_move rfl) rfl ?_
  refine SPO_p rfl (y_nil rfl) rfl ?_
  refine SPO_p rfl (y_fa fld_245_3 rfl) rfl ?_
  refine SPO_p rfl (y_move rfl) rfl ?_
  refine SPO_p rfl (y_nil rfl) rfl ?_
  refine SPO_p rfl (y_fa fld_245_4 rfl) rfl ?_
  refine SPO_p rfl (y_move rfl) rfl ?_
  refine SPO_p rfl (y_nil rfl) rfl ?_
  refine SPO_p rfl (y_fa fld_245_0 rfl) rfl ?_
  refine SPO_h rfl (y_load Tryz.isAgg241 rfl (by repeat (first | exact Cell.amid hpre rfl | exact Cell.head rfl | apply Cell.tail))) rfl ?_
  refine SPO_p rfl (y_len_l Tryz.underlying241 rfl) rfl ?_
  refine SPO_h rfl (y_load Tryz.isAgg242 rfl (by repeat (first | exact Cell.amid hpre rfl | exact Cell.head rfl | apply Cell.tail))) rfl ?_
  refine SPO_h rfl (y_len_m hn Tryz.underlying242 rfl (fun p hp => by simp only [List.flatten_cons, List.mem_append]; simp [hp])) rfl ?_
  refine SPO_p rfl (y_add rfl rfl (by omega)) rfl ?_
  refine SPO_h rfl (y_load Tryz.isAgg243 rfl (by repeat (first | exact Cell.amid hpre rfl | exact Cell.head rfl | apply Cell.tail))) rfl ?_
  refine SPO_h rfl (y_len_m hs Tryz.underlying243 rfl (fun p hp => by simp only [List.flatten_cons, List.mem_append]; simp [hp])) rfl ?_
  refine SPO_p rfl (y_add rfl rfl (by omega)) rfl ?_
  refine SPO_h rfl (y_load Tryz.isAgg242 rfl (by repeat (first | exact Cell.amid hpre rfl | exact Cell.head rfl | apply Cell.tail))) rfl ?_
  refine SPO_h rfl (y_len_m hr Tryz.underlying242 rfl (fun p hp => by simp only [List.flatten_cons, List.mem_append]; simp [hp])) rfl ?_
  refine SPO_p rfl (y_add rfl rfl (by omega)) rfl ?_
  refine SPO_h rfl (y_load Tryz.isAgg240 rfl (by repeat (first | exact Cell.amid hpre rfl | exact Cell.head rfl | apply Cell.tail))) rfl ?_
  refine SPO_p rfl (y_len_l Tryz.underlying240 rfl) rfl ?_
  refine SPO_if rfl (y_neq rfl rfl) rfl ?_ ?_
  · intro h6_28
    omega
  intro h6_28
  refine SPO_nil ?_
  refine thenP_n ?_
  refine SP_cond_f rfl ?_
  refine SP_skip ?_
  refine thenP_n ?_
  refine SP_seq ?_
  refine SP_region ?_
  refine SPL_one rfl (SP1_alloc Tryz.zeroValue344 rfl rfl ?_)
  intro b6
  refine SPL_nil ?_
  refine thenP_n ?_
  refine SP_seq ?_
  refine SP_seq ?_
  refine SP_region ?_
  refine SPL_y (y_move rfl) rfl ?_
  refine SPL_y (y_nil rfl) rfl ?_
  refine SPL_y (y_fa fld_245_1 rfl) rfl ?_
  refine SPL_y (y_load Tryz.isAgg241 rfl (by repeat (first | exact Cell.amid hpre rfl | exact Cell.head rfl | apply Cell.tail))) rfl ?_
  refine SPL_y (y_len_l Tryz.underlying241 rfl) rfl ?_
  refine SPL_y (y_move rfl) rfl ?_
  refine SPL_nil ?_
  refine thenP_n ?_
  refine SP_block ?_
  refine SP_loop (G := Nat × List Bool) (fun g => t.arr.length - g.1) (fun g => [(0, .pointer (some ⟨b, 0, none⟩)), (1, I ((j : Nat) : Int)), (4, pt b4), (5, .pointer (some ⟨tb, 0 + ((j : Nat) : Int).toNat * 6, none⟩)), (6, pt b6), (100, .slice aa t.arr.length ac), (101, I t.arr.length), (102, I ((g.1 : Nat) : Int))]) (fun g => [blk b 103 [.pointer (some ⟨nb, 0, none⟩), .slice (some ⟨tb, 0, none⟩) tl tc, I cnt], blk tb 245 (c0 ++ [.slice oa t.order.length oc, .slice aa t.arr.length ac, .map (some mn), .map (some ms), .map (some mr), I t.dead] ++ c2), so, sa, sn, ss, sr, blk b4 4 [.bool false], blk b6 344 (blV g.2)]) (fun g => g.1 ≤ t.arr.length ∧ Sn t (D1 g.1) g.2) ((0, List.replicate 32 false)) (⟨Nat.zero_le _, rfl, fun p k h1 h2 => by rw [List.getD_eq_getElem?_getD, List.getElem?_replicate] at h2; split at h2 <;> cases h2⟩) (by repeat (first | exact Sub.nil _ | refine Sub.cons rfl ?_)) (by repeat (first | exact Part.nil _ | (apply Part.cons; with_reducible (first | exact P0 | exact P1 | exact P2 | exact P3 | exact P4 | exact P5 | exact P6 | exact P7 | exact P8 | exact P9 | exact P10 | exact P11 | exact P12 | exact P13 | exact P14 | exact P15 | exact P16 | exact P17 | exact P18 | exact P19 | exact P20 | exact P21 | exact P22 | exact P23)) | (apply Part.flat; simp only [List.cons_append, List.nil_append]) | (apply Part.cons; (first | exact P0 | exact P1 | exact P2 | exact P3 | exact P4 | exact P5 | exact P6 | exact P7 | exact P8 | exact P9 | exact P10 | exact P11 | exact P12 | exact P13 | exact P14 | exact P15 | exact P16 | exact P17 | exact P18 | exact P19 | exact P20 | exact P21 | exact P22 | exact P23)) | (apply Part.nilc))) ?_
  rintro ⟨i9, s⟩ ⟨hi9, hS⟩
  dsimp only at hi9 hS ⊢
  refine SP_seq ?_
  refine SP_region ?_
  refine SPL_if (y_lss rfl rfl) rfl ?_ ?_
  · intro h10_0
    refine SPL_nil ?_
    refine thenP_n ?_
    refine SP_seq ?_
    refine SP_cond_t rfl ?_
    refine SP_skip ?_
    refine thenP_n ?_
    refine SP_seq ?_
    refine SP_block ?_
    refine SP_seq ?_
    obtain ⟨ab, asp, rfl, hac, hasp, rfl⟩ := ha.row (by omega)
    have hil : i9 < t.arr.length := by omega
    obtain ⟨p, hp1, hk, hnd⟩ := hX.arr1 (List.getElem?_eq_getElem hil)
    have hc8 : t.arr.getD ((i9 : Nat) : Int).toNat 0 = p := by rw [Int.toNat_natCast, List.getD_eq_getElem?_getD, List.getElem?_eq_getElem hil, Option.getD_some, hp1]
    have hk2 : (ky t)[p]? = some ⟨2, ((FloatKind.f64.nearest ((i9 : Int) + 1) : Nat) : Int), []⟩ := hk
    refine SP_region ?_
    refine SPL_y (y_move rfl) rfl ?_
    refine SPL_y (y_ia Tryz.underlying241 Tryz.sizeOf21 rfl rfl (by omega)) rfl ?_
    refine SPL_y (y_load Tryz.isAgg21 rfl (by repeat (first | exact arr_cell (j := ((i9 : Nat) : Int)) (by omega) (by omega) | apply Cell.tail))) rfl ?_
    rw [hc8]
    unfold i32V
    refine SPL_y (y_assign rfl) rfl ?_
    refine SPL_y (y_assign rfl) rfl ?_
    refine SPL_nil ?_
    refine thenP_n ?_
    refine SP_seq ?_
    refine SP_region ?_
    refine SPL_y (y_move rfl) rfl ?_
    refine SPL_y (y_nil rfl) rfl ?_
    refine SPL_y (y_fa fld_103_0 rfl) rfl ?_
    refine SPL_y (y_load Tryz.isAgg37 rfl (by repeat (first | exact Cell.amid hpre rfl | exact Cell.head rfl | apply Cell.tail))) rfl ?_
    refine SPL_y (y_move rfl) rfl ?_
    refine SPL_y (y_add rfl rfl (by omega)) rfl ?_
    refine SPL_one rfl (SP1_call (num_FromInt (.pointer (some ⟨nb, 0, none⟩)) ((i9 : Int) + 1)) Tryz.call177 rfl rfl (by repeat (first | exact Part.nil _ | (apply Part.cons; with_reducible (first | exact P0 | exact P1 | exact P2 | exact P3 | exact P4 | exact P5 | exact P6 | exact P7 | exact P8 | exact P9 | exact P10 | exact P11 | exact P12 | exact P13 | exact P14 | exact P15 | exact P16 | exact P17 | exact P18 | exact P19 | exact P20 | exact P21 | exact P22 | exact P23)) | (apply Part.flat; simp only [List.cons_append, List.nil_append]) | (apply Part.cons; (first | exact P0 | exact P1 | exact P2 | exact P3 | exact P4 | exact P5 | exact P6 | exact P7 | exact P8 | exact P9 | exact P10 | exact P11 | exact P12 | exact P13 | exact P14 | exact P15 | exact P16 | exact P17 | exact P18 | exact P19 | exact P20 | exact P21 | exact P22 | exact P23)) | (apply Part.nilc))) ?_)
    rintro v post H' ⟨rfl, rfl⟩ hH
    try simp only [List.cons_append, List.nil_append] at hH
    subst hH
    refine SPL_y (y_assign rfl) rfl ?_
    refine SPL_nil ?_
    refine thenP_n ?_
    refine SP_seq ?_
    refine SP_region ?_
    refine SPL_y (y_move rfl) rfl ?_
    refine SPL_y (y_move rfl) rfl ?_
    refine SPL_y (y_move rfl) rfl ?_
    refine SPL_y (y_build B42 rfl rfl (by simp only [fillL, List.foldl_cons, List.foldl_nil, List.set_cons_zero, List.set_cons_succ]; exact rfl)) rfl ?_
    refine SPL_one rfl (SP1_call (tab_points tb (0 + ((j : Nat) : Int).toNat * 6) c0 c2 hpre t oa oc so ho _ _ _ _ _ b6 s hS.1 hle1 p ⟨2, ((FloatKind.f64.nearest ((i9 : Int) + 1) : Nat) : Int), []⟩ hk2 (hS.free hk hnd)) Tryz.call232 rfl rfl (by repeat (first | exact Part.nil _ | (apply Part.cons; with_reducible (first | exact P0 | exact P1 | exact P2 | exact P3 | exact P4 | exact P5 | exact P6 | exact P7 | exact P8 | exact P9 | exact P10 | exact P11 | exact P12 | exact P13 | exact P14 | exact P15 | exact P16 | exact P17 | exact P18 | exact P19 | exact P20 | exact P21 | exact P22 | exact P23)) | (apply Part.flat; simp only [List.cons_append, List.nil_append]) | (apply Part.cons; (first | exact P0 | exact P1 | exact P2 | exact P3 | exact P4 | exact P5 | exact P6 | exact P7 | exact P8 | exact P9 | exact P10 | exact P11 | exact P12 | exact P13 | exact P14 | exact P15 | exact P16 | exact P17 | exact P18 | exact P19 | exact P20 | exact P21 | exact P22 | exact P23)) | (apply Part.nilc))) ?_)
    rintro v post H' ⟨rfl, rfl⟩ hH
    try simp only [List.cons_append, List.nil_append] at hH
    subst hH
    refine SPL_y (y_not_t rfl) rfl ?_
    refine SPL_nil ?_
    refine thenP_n ?_
    refine SP_cond_f rfl ?_
    refine SP_skip ?_
    refine inBlockP_n ?_
    refine thenP_n ?_
    refine SP_region ?_
    refine SPL_y (y_add rfl rfl (by omega)) rfl ?_
    refine SPL_y (y_move rfl) rfl ?_
    refine SPL_nil ?_
    refine thenP_n ?_
    exact Again.intro ((i9 + 1, s.set p true)) (⟨by dsimp only; omega, hS.put hk (fun k ⟨i1, q1, q2⟩ => ⟨i1, by dsimp only; omega, q2⟩) ⟨i9, by dsimp only; omega, rfl⟩⟩) (by dsimp only; omega) (by repeat (first | exact Sub.nil _ | refine Sub.cons rfl ?_)) (by repeat (first | exact Part.nil _ | (apply Part.cons; with_reducible (first | exact P0 | exact P1 | exact P2 | exact P3 | exact P4 | exact P5 | exact P6 | exact P7 | exact P8 | exact P9 | exact P10 | exact P11 | exact P12 | exact P13 | exact P14 | exact P15 | exact P16 | exact P17 | exact P18 | exact P19 | exact P20 | exact P21 | exact P22 | exact P23)) | (apply Part.flat; simp only [List.cons_append, List.nil_append]) | (apply Part.cons; (first | exact P0 | exact P1 | exact P2 | exact P3 | exact P4 | exact P5 | exact P6 | exact P7 | exact P8 | exact P9 | exact P10 | exact P11 | exact P12 | exact P13 | exact P14 | exact P15 | exact P16 | exact P17 | exact P18 | exact P19 | exact P20 | exact P21 | exact P22 | exact P23)) | (apply Part.nilc)))
  intro h10_0
  refine SPL_nil ?_
  refine thenP_n ?_
  refine SP_seq ?_
  refine SP_cond_f rfl ?_
  refine SP_exit ?_
  refine thenP_exit ?_
  refine thenP_exit ?_
  refine inBlockP_hit ?_
  refine thenP_n ?_
  refine SP_seq ?_
  refine SP_seq ?_
  refine SP_region ?_
  refine SPL_y (y_move rfl) rfl ?_
  refine SPL_y (y_nil rfl) rfl ?_
  refine SPL_y (y_fa fld_245_2 rfl) rfl ?_
  refine SPL_y (y_load Tryz.isAgg242 rfl (by repeat (first | exact Cell.amid hpre rfl | exact Cell.head rfl | apply Cell.tail))) rfl ?_
  refine SPL_one rfl (SP1_rangeM Tryz.underlying242 hn rfl (by first | exact P0 | exact P1 | exact P2 | exact P3 | exact P4 | exact P5 | exact P6 | exact P7 | exact P8 | exact P9 | exact P10 | exact P11 | exact P12 | exact P13 | exact P14 | exact P15 | exact P16 | exact P17 | exact P18 | exact P19 | exact P20 | exact P21 | exact P22 | exact P23) rfl ?_)
  intro rb sg hI0
  refine SPL_nil ?_
  refine thenP_n ?_
  refine SP_block ?_
  refine SP_loop (G := List (Int × Int) × List Bool × Option (Int × Int) × Seg) (fun g => g.1.length) (fun g => [(0, .pointer (some ⟨b, 0, none⟩)), (1, I ((j : Nat) : Int)), (4, pt b4), (5, .pointer (some ⟨tb, 0 + ((j : Nat) : Int).toNat * 6, none⟩)), (6, pt b6), (125, .pointer (some ⟨rb, 0, none⟩))]) (fun g => [blk b 103 [.pointer (some ⟨nb, 0, none⟩), .slice (some ⟨tb, 0, none⟩) tl tc, I cnt], blk tb 245 (c0 ++ [.slice oa t.order.length oc, .slice aa t.arr.length ac, .map (some mn), .map (some ms), .map (some mr), I t.dead] ++ c2), so, sa, g.2.2.2, ss, sr, blk b4 4 [.bool false], blk b6 344 (blV g.2.1)]) (fun g => isRng u64K i32V mn rb t.nums g.1 g.2.2.1 g.2.2.2 ∧ ∃ d, (d ++ g.1).Perm t.nums ∧ Sn t (D2 t.arr.length d) g.2.1) ((t.nums, s, none, sg)) (⟨hI0, [], List.Perm.refl _, hS.mono (fun k ⟨i1, q1, q2⟩ => .inl ⟨i1, by omega, q2⟩)⟩) (by repeat (first | exact Sub.nil _ | refine Sub.cons rfl ?_)) (by repeat (first | exact Part.nil _ | (apply Part.cons; with_reducible (first | exact P0 | exact P1 | exact P2 | exact P3 | exact P4 | exact P5 | exact P6 | exact P7 | exact P8 | exact P9 | exact P10 | exact P11 | exact P12 | exact P13 | exact P14 | exact P15 | exact P16 | exact P17 | exact P18 | exact P19 | exact P20 | exact P21 | exact P22 | exact P23)) | (apply Part.flat; simp only [List.cons_append, List.nil_append]) | (apply Part.cons; (first | exact P0 | exact P1 | exact P2 | exact P3 | exact P4 | exact P5 | exact P6 | exact P7 | exact P8 | exact P9 | exact P10 | exact P11 | exact P12 | exact P13 | exact P14 | exact P15 | exact P16 | exact P17 | exact P18 | exact P19 | exact P20 | exact P21 | exact P22 | exact P23)) | (apply Part.nilc))) ?_
  rintro ⟨rest, s, cur, sg1⟩ ⟨hI, d, hpm, hS⟩
  dsimp only at hI hpm hS ⊢
  refine SP_seq ?_
  refine SP_region ?_
  refine SPL_one rfl (SP1_nextM hI rfl (by first | exact P0 | exact P1 | exact P2 | exact P3 | exact P4 | exact P5 | exact P6 | exact P7 | exact P8 | exact P9 | exact P10 | exact P11 | exact P12 | exact P13 | exact P14 | exact P15 | exact P16 | exact P17 | exact P18 | exact P19 | exact P20 | exact P21 | exact P22 | exact P23) rfl ?_ ?_)
  · intro hrest
    refine SPL_y (y_ext rfl rfl) rfl ?_
    refine SPL_nil ?_
    refine thenP_n ?_
    refine SP_seq ?_
    refine SP_cond_f rfl ?_
    refine SP_exit ?_
    refine thenP_exit ?_
    refine thenP_exit ?_
    refine inBlockP_hit ?_
    refine thenP_n ?_
    refine SP_seq ?_
    refine SP_seq ?_
    obtain ⟨sn3, st9, rfl, hn3⟩ := hI.map
    refine SP_openAt [sn3, st9] (by first | exact P0 | exact P1 | exact P2 | exact P3 | exact P4 | exact P5 | exact P6 | exact P7 | exact P8 | exact P9 | exact P10 | exact P11 | exact P12 | exact P13 | exact P14 | exact P15 | exact P16 | exact P17 | exact P18 | exact P19 | exact P20 | exact P21 | exact P22 | exact P23) ?_
    simp only [List.cons_append, List.nil_append]
    refine SP_region ?_
    refine SPL_y (y_move rfl) rfl ?_
    refine SPL_y (y_nil rfl) rfl ?_
    refine SPL_y (y_fa fld_245_3 rfl) rfl ?_
    refine SPL_y (y_load Tryz.isAgg243 rfl (by repeat (first | exact Cell.amid hpre rfl | exact Cell.head rfl | apply Cell.tail))) rfl ?_
    refine SPL_one rfl (SP1_rangeM Tryz.underlying243 hs rfl (by first | exact P0 | exact P1 | exact P2 | exact P3 | exact P4 | exact P5 | exact P6 | exact P7 | exact P8 | exact P9 | exact P10 | exact P11 | exact P12 | exact P13 | exact P14 | exact P15 | exact P16 | exact P17 | exact P18 | exact P19 | exact P20 | exact P21 | exact P22 | exact P23) rfl ?_)
    intro rb sg hI0
    refine SPL_nil ?_
    refine thenP_n ?_
    refine SP_block ?_
    refine SP_loop (G := List (List UInt8 × Int) × List Bool × Option (List UInt8 × Int) × Seg) (fun g => g.1.length) (fun g => [(0, .pointer (some ⟨b, 0, none⟩)), (1, I ((j : Nat) : Int)), (4, pt b4), (5, .pointer (some ⟨tb, 0 + ((j : Nat) : Int).toNat * 6, none⟩)), (6, pt b6), (175, .pointer (some ⟨rb, 0, none⟩))]) (fun g => [blk b 103 [.pointer (some ⟨nb, 0, none⟩), .slice (some ⟨tb, 0, none⟩) tl tc, I cnt], blk tb 245 (c0 ++ [.slice oa t.order.length oc, .slice aa t.arr.length ac, .map (some mn), .map (some ms), .map (some mr), I t.dead] ++ c2), so, sa, sn3, g.2.2.2, sr, blk b4 4 [.bool false], blk b6 344 (blV g.2.1)]) (fun g => isRng S i32V ms rb t.strs g.1 g.2.2.1 g.2.2.2 ∧ ∃ d, (d ++ g.1).Perm t.strs ∧ Sn t (D3 d) g.2.1) ((t.strs, s, none, sg)) (⟨hI0, [], List.Perm.refl _, hS.mono (fun k q => q.elim (fun ⟨i, q1, q2⟩ => .inl (by rw [q2]; rfl)) fun ⟨e, q1, q2⟩ => .inl (by rw [q2]))⟩) (by repeat (first | exact Sub.nil _ | refine Sub.cons rfl ?_)) (by repeat (first | exact Part.nil _ | (apply Part.cons; with_reducible (first | exact P0 | exact P1 | exact P2 | exact P3 | exact P4 | exact P5 | exact P6 | exact P7 | exact P8 | exact P9 | exact P10 | exact P11 | exact P12 | exact P13 | exact P14 | exact P15 | exact P16 | exact P17 | exact P18 | exact P19 | exact P20 | exact P21 | exact P22 | exact P23)) | (apply Part.flat; simp only [List.cons_append, List.nil_append]) | (apply Part.cons; (first | exact P0 | exact P1 | exact P2 | exact P3 | exact P4 | exact P5 | exact P6 | exact P7 | exact P8 | exact P9 | exact P10 | exact P11 | exact P12 | exact P13 | exact P14 | exact P15 | exact P16 | exact P17 | exact P18 | exact P19 | exact P20 | exact P21 | exact P22 | exact P23)) | (apply Part.nilc))) ?_
    rintro ⟨rest, s, cur, sg1⟩ ⟨hI, d, hpm, hS⟩
    dsimp only at hI hpm hS ⊢
    refine SP_seq ?_
    refine SP_region ?_
    refine SPL_one rfl (SP1_nextM hI rfl (by first | exact P0 | exact P1 | exact P2 | exact P3 | exact P4 | exact P5 | exact P6 | exact P7 | exact P8 | exact P9 | exact P10 | exact P11 | exact P12 | exact P13 | exact P14 | exact P15 | exact P16 | exact P17 | exact P18 | exact P19 | exact P20 | exact P21 | exact P22 | exact P23) rfl ?_ ?_)
    · intro hrest
      refine SPL_y (y_ext rfl rfl) rfl ?_
      refine SPL_nil ?_
      refine thenP_n ?_
      refine SP_seq ?_
      refine SP_cond_f rfl ?_
      refine SP_exit ?_
      refine thenP_exit ?_
      refine thenP_exit ?_
      refine inBlockP_hit ?_
      refine thenP_n ?_
      refine SP_seq ?_
      refine SP_seq ?_
      obtain ⟨ss3, st9, rfl, hs3⟩ := hI.map
      refine SP_openAt [ss3, st9] (by first | exact P0 | exact P1 | exact P2 | exact P3 | exact P4 | exact P5 | exact P6 | exact P7 | exact P8 | exact P9 | exact P10 | exact P11 | exact P12 | exact P13 | exact P14 | exact P15 | exact P16 | exact P17 | exact P18 | exact P19 | exact P20 | exact P21 | exact P22 | exact P23) ?_
      simp only [List.cons_append, List.nil_append]
      refine SP_region ?_
      refine SPL_y (y_move rfl) rfl ?_
      refine SPL_y (y_nil rfl) rfl ?_
      refine SPL_y (y_fa fld_245_4 rfl) rfl ?_
      refine SPL_y (y_load Tryz.isAgg242 rfl (by repeat (first | exact Cell.amid hpre rfl | exact Cell.head rfl | apply Cell.tail))) rfl ?_
      refine SPL_one rfl (SP1_rangeM Tryz.underlying242 hr rfl (by first | exact P0 | exact P1 | exact P2 | exact P3 | exact P4 | exact P5 | exact P6 | exact P7 | exact P8 | exact P9 | exact P10 | exact P11 | exact P12 | exact P13 | exact P14 | exact P15 | exact P16 | exact P17 | exact P18 | exact P19 | exact P20 | exact P21 | exact P22 | exact P23) rfl ?_)
      intro rb sg hI0
      refine SPL_nil ?_
      refine thenP_n ?_
      refine SP_block ?_
      refine SP_loop (G := List (Int × Int) × List Bool × Option (Int × Int) × Seg) (fun g => g.1.length) (fun g => [(0, .pointer (some ⟨b, 0, none⟩)), (1, I ((j : Nat) : Int)), (4, pt b4), (5, .pointer (some ⟨tb, 0 + ((j : Nat) : Int).toNat * 6, none⟩)), (6, pt b6), (191, .pointer (some ⟨rb, 0, none⟩))]) (fun g => [blk b 103 [.pointer (some ⟨nb, 0, none⟩), .slice (some ⟨tb, 0, none⟩) tl tc, I cnt], blk tb 245 (c0 ++ [.slice oa t.order.length oc, .slice aa t.arr.length ac, .map (some mn), .map (some ms), .map (some mr), I t.dead] ++ c2), so, sa, sn3, ss3, g.2.2.2, blk b4 4 [.bool false], blk b6 344 (blV g.2.1)]) (fun g => isRng u64K i32V mr rb t.refs g.1 g.2.2.1 g.2.2.2 ∧ ∃ d, (d ++ g.1).Perm t.refs ∧ Sn t (D4 d) g.2.1) ((t.refs, s, none, sg)) (⟨hI0, [], List.Perm.refl _, hS.mono (fun k q => q.elim .inl fun ⟨e, q1, q2⟩ => .inr (.inl (by rw [q2])))⟩) (by repeat (first | exact Sub.nil _ | refine Sub.cons rfl ?_)) (by repeat (first | exact Part.nil _ | (apply Part.cons; with_reducible (first | exact P0 | exact P1 | exact P2 | exact P3 | exact P4 | exact P5 | exact P6 | exact P7 | exact P8 | exact P9 | exact P10 | exact P11 | exact P12 | exact P13 | exact P14 | exact P15 | exact P16 | exact P17 | exact P18 | exact P19 | exact P20 | exact P21 | exact P22 | exact P23)) | (apply Part.flat; simp only [List.cons_append, List.nil_append]) | (apply Part.cons; (first | exact P0 | exact P1 | exact P2 | exact P3 | exact P4 | exact P5 | exact P6 | exact P7 | exact P8 | exact P9 | exact P10 | exact P11 | exact P12 | exact P13 | exact P14 | exact P15 | exact P16 | exact P17 | exact P18 | exact P19 | exact P20 | exact P21 | exact P22 | exact P23)) | (apply Part.nilc))) ?_
      rintro ⟨rest, s, cur, sg1⟩ ⟨hI, d, hpm, hS⟩
      dsimp only at hI hpm hS ⊢
      refine SP_seq ?_
      refine SP_region ?_
      refine SPL_one rfl (SP1_nextM hI rfl (by first | exact P0 | exact P1 | exact P2 | exact P3 | exact P4 | exact P5 | exact P6 | exact P7 | exact P8 | exact P9 | exact P10 | exact P11 | exact P12 | exact P13 | exact P14 | exact P15 | exact P16 | exact P17 | exact P18 | exact P19 | exact P20 | exact P21 | exact P22 | exact P23) rfl ?_ ?_)
      · intro hrest
        refine SPL_y (y_ext rfl rfl) rfl ?_
        refine SPL_nil ?_
        refine thenP_n ?_
        refine SP_seq ?_
        refine SP_cond_f rfl ?_
        refine SP_exit ?_
        refine thenP_exit ?_
        refine thenP_exit ?_
        refine inBlockP_hit ?_
        refine thenP_n ?_
        refine SP_seq ?_
        obtain ⟨sr3, st9, rfl, hr3⟩ := hI.map
        refine SP_openAt [sr3, st9] (by first | exact P0 | exact P1 | exact P2 | exact P3 | exact P4 | exact P5 | exact P6 | exact P7 | exact P8 | exact P9 | exact P10 | exact P11 | exact P12 | exact P13 | exact P14 | exact P15 | exact P16 | exact P17 | exact P18 | exact P19 | exact P20 | exact P21 | exact P22 | exact P23) ?_
        simp only [List.cons_append, List.nil_append]
        refine SP_region ?_
        refine SPL_one rfl (SP1_alloc Tryz.zeroValue3 rfl rfl ?_)
        intro b19
        refine SPL_one rfl (SP1_store Tryz.sizeOf3 rfl rfl rfl (by first | exact U0 | exact U1 | exact U2 | exact U3 | exact U4 | exact U5 | exact U6 | exact U7 | exact U8 | exact U9 | exact U10 | exact U11 | exact U12 | exact U13 | exact U14 | exact U15 | exact U16 | exact U17 | exact U18 | exact U19 | exact U20 | exact U21 | exact U22 | exact U23) (by rfl) ?_)
        refine SPL_nil ?_
        refine thenP_n ?_
        refine SP_seq ?_
        refine SP_seq ?_
        refine SP_region ?_
        refine SPL_y (y_move rfl) rfl ?_
        refine SPL_one rfl (SP1_call (tab_placesT tb (0 + ((j : Nat) : Int).toNat * 6) 0) Tryz.call234 rfl rfl (by repeat (first | exact Part.nil _ | (apply Part.cons; with_reducible (first | exact P0 | exact P1 | exact P2 | exact P3 | exact P4 | exact P5 | exact P6 | exact P7 | exact P8 | exact P9 | exact P10 | exact P11 | exact P12 | exact P13 | exact P14 | exact P15 | exact P16 | exact P17 | exact P18 | exact P19 | exact P20 | exact P21 | exact P22 | exact P23)) | (apply Part.flat; simp only [List.cons_append, List.nil_append]) | (apply Part.cons; (first | exact P0 | exact P1 | exact P2 | exact P3 | exact P4 | exact P5 | exact P6 | exact P7 | exact P8 | exact P9 | exact P10 | exact P11 | exact P12 | exact P13 | exact P14 | exact P15 | exact P16 | exact P17 | exact P18 | exact P19 | exact P20 | exact P21 | exact P22 | exact P23)) | (apply Part.nilc))) ?_)
        rintro v post H' ⟨q3, q4, q5, rfl, rfl⟩ hH
        try simp only [List.cons_append, List.nil_append] at hH
        subst hH
        refine SPL_nil ?_
        refine thenP_n ?_
        refine SP_block ?_
        refine SP_range (W := (fun bb H2 => bb = false ∧ H2 = [blk b 103 [.pointer (some ⟨nb, 0, none⟩), .slice (some ⟨tb, 0, none⟩) tl tc, I cnt], blk tb 245 (c0 ++ [.slice oa t.order.length oc, .slice aa t.arr.length ac, .map (some mn), .map (some ms), .map (some mr), I t.dead] ++ c2), so, sa, sn3, ss3, sr3, blk b4 4 [.bool false], blk b19 3 [I (nilN t t.order.length)]])) (lb := [pt q4, pt q3, pt q5]) rfl Tryz.call274 ?_ ?_ ?_
        · intro l r fn a r0 hfit hr0
          have hfit2 : Fits 249 [] [(19, pt b19)] a := fits_sub hfit (by repeat (first | exact Sub.nil _ | refine Sub.cons rfl ?_))
          refine Spec_part (tab_places1C (l := l) (r0 := r0) tb (0 + ((j : Nat) : Int).toNat * 6) c0 c2 hpre t oa oc so ho _ _ _ _ _ q3 q4 q5 (fun i => blk b19 3 [I (nilN t i)]) (by omega) (by rw [hr0]; rfl) ?_) (by repeat (first | exact Part.nil _ | (apply Part.cons; with_reducible (first | exact P0 | exact P1 | exact P2 | exact P3 | exact P4 | exact P5 | exact P6 | exact P7 | exact P8 | exact P9 | exact P10 | exact P11 | exact P12 | exact P13 | exact P14 | exact P15 | exact P16 | exact P17 | exact P18 | exact P19 | exact P20 | exact P21 | exact P22 | exact P23)) | (apply Part.flat; simp only [List.cons_append, List.nil_append]) | (apply Part.cons; (first | exact P0 | exact P1 | exact P2 | exact P3 | exact P4 | exact P5 | exact P6 | exact P7 | exact P8 | exact P9 | exact P10 | exact P11 | exact P12 | exact P13 | exact P14 | exact P15 | exact P16 | exact P17 | exact P18 | exact P19 | exact P20 | exact P21 | exact P22 | exact P23)) | (apply Part.nilc))) ?_
          · intro i e he A w Fr hown
            subst hr0
            refine round_specC (n := 249) (ρ := [(220, .agg (entV e).toArray), (219, I ((i : Nat) : Int)), (19, pt b19)]) (Kb := fun H2 => H2 = [(fun i => blk b19 3 [I (nilN t i)]) (i + 1)]) rfl rfl (fits_round hfit2 rfl rfl) ?_ hown
            dsimp only [recOf]
            obtain ⟨hwk, hwv, hwn⟩ := hW e (List.mem_of_getElem? he)
            have hst := nilN_step he
            have hnb := nilN_bd t i
            refine SPq_region (fun _ _ _ z => by cases z.1) (by kernel_rfl) ?_
            refine SPL_one rfl (SP1_alloc Tryz.zeroValue257 rfl rfl ?_)
            intro b21
            refine SPL_one rfl (SP1_storeAll (vs := entV e) Tryz.sizeOf257 rfl rfl rfl rfl rfl (by first | exact U0 | exact U1 | exact U2 | exact U3 | exact U4 | exact U5 | exact U6 | exact U7 | exact U8 | exact U9 | exact U10 | exact U11 | exact U12 | exact U13 | exact U14 | exact U15 | exact U16 | exact U17 | exact U18 | exact U19 | exact U20 | exact U21 | exact U22 | exact U23) (by rfl) ?_)
            refine SPL_nil ?_
            refine ⟨rfl, ?_⟩
            refine SPq_block ?_
            refine SPq_seq ?_
            refine SPq_region (fun _ _ _ z => by cases z.1) (by kernel_rfl) ?_
            refine SPL_y (y_fa fld_257_0 rfl) rfl ?_
            refine SPL_y (y_loads Tryz.isAgg42 Tryz.sizeOf42 rfl rfl (by repeat (first | exact (Cells.head (vs := valV e.1) rfl) | apply Cells.tail))) rfl ?_
            refine SPL_one rfl (SP1_call (api_WellFormed e.1) Tryz.call91 rfl rfl (by repeat (first | exact Part.nil _ | (apply Part.cons; with_reducible (first | exact P0 | exact P1 | exact P2 | exact P3 | exact P4 | exact P5 | exact P6 | exact P7 | exact P8 | exact P9 | exact P10 | exact P11 | exact P12 | exact P13 | exact P14 | exact P15 | exact P16 | exact P17 | exact P18 | exact P19 | exact P20 | exact P21 | exact P22 | exact P23)) | (apply Part.flat; simp only [List.cons_append, List.nil_append]) | (apply Part.cons; (first | exact P0 | exact P1 | exact P2 | exact P3 | exact P4 | exact P5 | exact P6 | exact P7 | exact P8 | exact P9 | exact P10 | exact P11 | exact P12 | exact P13 | exact P14 | exact P15 | exact P16 | exact P17 | exact P18 | exact P19 | exact P20 | exact P21 | exact P22 | exact P23)) | (apply Part.nilc))) ?_)
            rintro v post H' ⟨rfl, rfl⟩ hH
            try simp only [List.cons_append, List.nil_append] at hH
            subst hH
            rw [hwk]
            refine SPL_y (y_assign rfl) rfl ?_
            refine SPL_nil ?_
            refine thenP_n ?_
            refine SPq_seq ?_
            refine SPq_region (fun _ _ _ z => by cases z.1) (by kernel_rfl) ?_
            refine SPL_y (y_fa fld_257_1 rfl) rfl ?_
            refine SPL_y (y_loads Tryz.isAgg42 Tryz.sizeOf42 rfl rfl (by repeat (first | exact (Cells.head (vs := valV e.2) rfl) | apply Cells.tail))) rfl ?_
            refine SPL_one rfl (SP1_call (api_WellFormed e.2) Tryz.call91 rfl rfl (by repeat (first | exact Part.nil _ | (apply Part.cons; with_reducible (first | exact P0 | exact P1 | exact P2 | exact P3 | exact P4 | exact P5 | exact P6 | exact P7 | exact P8 | exact P9 | exact P10 | exact P11 | exact P12 | exact P13 | exact P14 | exact P15 | exact P16 | exact P17 | exact P18 | exact P19 | exact P20 | exact P21 | exact P22 | exact P23)) | (apply Part.flat; simp only [List.cons_append, List.nil_append]) | (apply Part.cons; (first | exact P0 | exact P1 | exact P2 | exact P3 | exact P4 | exact P5 | exact P6 | exact P7 | exact P8 | exact P9 | exact P10 | exact P11 | exact P12 | exact P13 | exact P14 | exact P15 | exact P16 | exact P17 | exact P18 | exact P19 | exact P20 | exact P21 | exact P22 | exact P23)) | (apply Part.nilc))) ?_)
            rintro v post H' ⟨rfl, rfl⟩ hH
            try simp only [List.cons_append, List.nil_append] at hH
            subst hH
            rw [hwv]
            refine SPL_y (y_assign rfl) rfl ?_
            refine SPL_nil ?_
            refine thenP_n ?_
            refine SPq_seq ?_
            refine SPq_seq ?_
            refine SPq_region (fun _ _ _ z => by cases z.1) (by kernel_rfl) ?_
            refine SPL_y (y_move rfl) rfl ?_
            refine SPL_y (y_not_t rfl) rfl ?_
            refine SPL_y (y_move rfl) rfl ?_
            refine SPL_gy rfl rfl ?_
            refine SPL_y (y_move rfl) rfl ?_
            refine SPL_gy rfl rfl ?_
            refine SPL_y (y_not_t rfl) rfl ?_
            refine SPL_y (y_pick_f rfl rfl) rfl ?_
            refine SPL_y (y_move rfl) rfl ?_
            refine SPL_gy rfl rfl ?_
            refine SPL_y (y_fa fld_257_0 rfl) rfl ?_
            refine SPL_gy rfl rfl ?_
            refine SPL_y (y_loads Tryz.isAgg42 Tryz.sizeOf42 rfl rfl (by repeat (first | exact (Cells.head (vs := valV e.1) rfl) | apply Cells.tail))) rfl ?_
            refine SPL_gy rfl rfl ?_
            refine SPL_one rfl (SP1_call (tab_isNil e.1) Tryz.call137 rfl rfl (by repeat (first | exact Part.nil _ | (apply Part.cons; with_reducible (first | exact P0 | exact P1 | exact P2 | exact P3 | exact P4 | exact P5 | exact P6 | exact P7 | exact P8 | exact P9 | exact P10 | exact P11 | exact P12 | exact P13 | exact P14 | exact P15 | exact P16 | exact P17 | exact P18 | exact P19 | exact P20 | exact P21 | exact P22 | exact P23)) | (apply Part.flat; simp only [List.cons_append, List.nil_append]) | (apply Part.cons; (first | exact P0 | exact P1 | exact P2 | exact P3 | exact P4 | exact P5 | exact P6 | exact P7 | exact P8 | exact P9 | exact P10 | exact P11 | exact P12 | exact P13 | exact P14 | exact P15 | exact P16 | exact P17 | exact P18 | exact P19 | exact P20 | exact P21 | exact P22 | exact P23)) | (apply Part.nilc))) ?_)
            rintro v post H' ⟨rfl, rfl⟩ hH
            try simp only [List.cons_append, List.nil_append] at hH
            subst hH
            rw [hwn]
            refine SPL_y (y_pick_f rfl rfl) rfl ?_
            refine SPL_nil ?_
            refine thenP_n ?_
            refine SPq_cond_f rfl ?_
            refine SPq_skip ?_
            refine thenP_n ?_
            refine SPq_seq ?_
            refine SPq_region (fun _ _ _ z => by cases z.1) (by kernel_rfl) ?_
            refine SPL_y (y_fa fld_257_1 rfl) rfl ?_
            refine SPL_y (y_loads Tryz.isAgg42 Tryz.sizeOf42 rfl rfl (by repeat (first | exact (Cells.head (vs := valV e.2) rfl) | apply Cells.tail))) rfl ?_
            refine SPL_one rfl (SP1_call (tab_isNil e.2) Tryz.call137 rfl rfl (by repeat (first | exact Part.nil _ | (apply Part.cons; with_reducible (first | exact P0 | exact P1 | exact P2 | exact P3 | exact P4 | exact P5 | exact P6 | exact P7 | exact P8 | exact P9 | exact P10 | exact P11 | exact P12 | exact P13 | exact P14 | exact P15 | exact P16 | exact P17 | exact P18 | exact P19 | exact P20 | exact P21 | exact P22 | exact P23)) | (apply Part.flat; simp only [List.cons_append, List.nil_append]) | (apply Part.cons; (first | exact P0 | exact P1 | exact P2 | exact P3 | exact P4 | exact P5 | exact P6 | exact P7 | exact P8 | exact P9 | exact P10 | exact P11 | exact P12 | exact P13 | exact P14 | exact P15 | exact P16 | exact P17 | exact P18 | exact P19 | exact P20 | exact P21 | exact P22 | exact P23)) | (apply Part.nilc))) ?_)
            rintro v post H' ⟨rfl, rfl⟩ hH
            rcases hnl : isNilV e.2 with _ | _
            · try simp only [List.cons_append, List.nil_append] at hH
              subst hH
              refine SPL_nil ?_
              refine thenP_n ?_
              refine SPq_cond_f rfl ?_
              refine SPq_skip ?_
              refine ⟨rfl, ?_⟩
              refine ⟨rfl, [blk b19 3 [I (nilN t i)]], _, (by repeat (first | exact Part.nil _ | (apply Part.cons; with_reducible (first | exact P0 | exact P1 | exact P2 | exact P3 | exact P4 | exact P5 | exact P6 | exact P7 | exact P8 | exact P9 | exact P10 | exact P11 | exact P12 | exact P13 | exact P14 | exact P15 | exact P16 | exact P17 | exact P18 | exact P19 | exact P20 | exact P21 | exact P22 | exact P23)) | (apply Part.flat; simp only [List.cons_append, List.nil_append]) | (apply Part.cons; (first | exact P0 | exact P1 | exact P2 | exact P3 | exact P4 | exact P5 | exact P6 | exact P7 | exact P8 | exact P9 | exact P10 | exact P11 | exact P12 | exact P13 | exact P14 | exact P15 | exact P16 | exact P17 | exact P18 | exact P19 | exact P20 | exact P21 | exact P22 | exact P23)) | (apply Part.nilc))), ?_⟩
              rw [hnl, if_neg (by decide)] at hst
              show [blk b19 3 [I (nilN t i)]] = [blk b19 3 [I (nilN t (i + 1))]]
              rw [hst, Int.add_zero]
            · try simp only [List.cons_append, List.nil_append] at hH
              subst hH
              refine SPL_nil ?_
              refine thenP_n ?_
              refine SPq_cond_t rfl ?_
              refine SPq_region (fun _ _ _ z => by cases z.1) (by kernel_rfl) ?_
              refine SPL_y (y_load Tryz.isAgg3 rfl (by repeat (first | exact Cell.amid hpre rfl | exact Cell.head rfl | apply Cell.tail))) rfl ?_
              refine SPL_y (y_add rfl rfl (by omega)) rfl ?_
              refine SPL_one rfl (SP1_store Tryz.sizeOf3 rfl rfl rfl (by first | exact U0 | exact U1 | exact U2 | exact U3 | exact U4 | exact U5 | exact U6 | exact U7 | exact U8 | exact U9 | exact U10 | exact U11 | exact U12 | exact U13 | exact U14 | exact U15 | exact U16 | exact U17 | exact U18 | exact U19 | exact U20 | exact U21 | exact U22 | exact U23) (by rfl) ?_)
              refine SPL_nil ?_
              refine ⟨rfl, ?_⟩
              refine ⟨rfl, [blk b19 3 [I (nilN t i + 1)]], _, (by repeat (first | exact Part.nil _ | (apply Part.cons; with_reducible (first | exact P0 | exact P1 | exact P2 | exact P3 | exact P4 | exact P5 | exact P6 | exact P7 | exact P8 | exact P9 | exact P10 | exact P11 | exact P12 | exact P13 | exact P14 | exact P15 | exact P16 | exact P17 | exact P18 | exact P19 | exact P20 | exact P21 | exact P22 | exact P23)) | (apply Part.flat; simp only [List.cons_append, List.nil_append]) | (apply Part.cons; (first | exact P0 | exact P1 | exact P2 | exact P3 | exact P4 | exact P5 | exact P6 | exact P7 | exact P8 | exact P9 | exact P10 | exact P11 | exact P12 | exact P13 | exact P14 | exact P15 | exact P16 | exact P17 | exact P18 | exact P19 | exact P20 | exact P21 | exact P22 | exact P23)) | (apply Part.nilc))), ?_⟩
              rw [hnl, if_pos rfl] at hst
              show [blk b19 3 [I (nilN t i + 1)]] = [blk b19 3 [I (nilN t (i + 1))]]
              rw [hst]
          · rintro v post rfl
            exact ⟨_, ⟨false, _, ⟨rfl, rfl⟩, rfl⟩, _, (by repeat (first | exact Part.nil _ | (apply Part.cons; with_reducible (first | exact P0 | exact P1 | exact P2 | exact P3 | exact P4 | exact P5 | exact P6 | exact P7 | exact P8 | exact P9 | exact P10 | exact P11 | exact P12 | exact P13 | exact P14 | exact P15 | exact P16 | exact P17 | exact P18 | exact P19 | exact P20 | exact P21 | exact P22 | exact P23)) | (apply Part.flat; simp only [List.cons_append, List.nil_append]) | (apply Part.cons; (first | exact P0 | exact P1 | exact P2 | exact P3 | exact P4 | exact P5 | exact P6 | exact P7 | exact P8 | exact P9 | exact P10 | exact P11 | exact P12 | exact P13 | exact P14 | exact P15 | exact P16 | exact P17 | exact P18 | exact P19 | exact P20 | exact P21 | exact P22 | exact P23)) | (apply Part.nilc)))⟩
        · rintro rg H2 ⟨hb, _⟩
          cases hb
        rintro rg H2 ⟨_, rfl⟩
        refine inBlockP_n ?_
        refine thenP_n ?_
        refine SP_seq ?_
        refine SP_draw 6 [(1, 0), (2, 0), (3, 0), (0, 1), (4, 1), (5, 0), (6, 3)] mixed (by kernel_rfl) (fun _ _ _ _ _ h => h) (Part.refl _) ?_
        refine SPO_p rfl (y_move rfl) rfl ?_
        refine SPO_p rfl (y_nil rfl) rfl ?_
        refine SPO_p rfl (y_fa fld_245_5 rfl) rfl ?_
        refine SPO_h rfl (y_load Tryz.isAgg3 rfl (by repeat (first | exact Cell.amid hpre rfl | exact Cell.head rfl | apply Cell.tail))) rfl ?_
        refine SPO_h rfl (y_load Tryz.isAgg3 rfl (by repeat (first | exact Cell.amid hpre rfl | exact Cell.head rfl | apply Cell.tail))) rfl ?_
        refine SPO_p rfl (y_eql rfl rfl) rfl ?_
        refine SPO_z (k := 0) rfl rfl (SP1_store Tryz.sizeOf4 rfl rfl rfl (by first | exact U0 | exact U1 | exact U2 | exact U3 | exact U4 | exact U5 | exact U6 | exact U7 | exact U8 | exact U9 | exact U10 | exact U11 | exact U12 | exact U13 | exact U14 | exact U15 | exact U16 | exact U17 | exact U18 | exact U19 | exact U20 | exact U21 | exact U22 | exact U23) (by rfl) ?_)
        refine SPO_nil ?_
        refine thenP_n ?_
        refine SP_ret ?_
        refine bodyPM_mark (r := rg) (H' := [blk b 103 [.pointer (some ⟨nb, 0, none⟩), .slice (some ⟨tb, 0, none⟩) tl tc, I cnt], blk tb 245 (c0 ++ [.slice oa t.order.length oc, .slice aa t.arr.length ac, .map (some mn), .map (some ms), .map (some mr), I t.dead] ++ c2), so, sa, sn3, ss3, sr3]) (by first | exact P0 | exact P1 | exact P2 | exact P3 | exact P4 | exact P5 | exact P6 | exact P7 | exact P8 | exact P9 | exact P10 | exact P11 | exact P12 | exact P13 | exact P14 | exact P15 | exact P16 | exact P17 | exact P18 | exact P19 | exact P20 | exact P21 | exact P22 | exact P23) (ResB rfl rfl Tryz.isAgg4 (by repeat (first | exact Cell.amid hpre rfl | exact Cell.head rfl | apply Cell.tail))) (by repeat (first | exact Part.nil _ | (apply Part.cons; with_reducible (first | exact P0 | exact P1 | exact P2 | exact P3 | exact P4 | exact P5 | exact P6 | exact P7 | exact P8 | exact P9 | exact P10 | exact P11 | exact P12 | exact P13 | exact P14 | exact P15 | exact P16 | exact P17 | exact P18 | exact P19 | exact P20 | exact P21 | exact P22 | exact P23)) | (apply Part.flat; simp only [List.cons_append, List.nil_append]) | (apply Part.cons; (first | exact P0 | exact P1 | exact P2 | exact P3 | exact P4 | exact P5 | exact P6 | exact P7 | exact P8 | exact P9 | exact P10 | exact P11 | exact P12 | exact P13 | exact P14 | exact P15 | exact P16 | exact P17 | exact P18 | exact P19 | exact P20 | exact P21 | exact P22 | exact P23)) | (apply Part.nilc))) ?_
        exact ⟨congrArg Value.bool (decide_eq_true (by rw [nilN_all, hX.dd])), _, _, _, hn3, hs3, hr3, rfl⟩
      · intro i0 hi0 s' hI'
        refine SPL_y (y_ext rfl rfl) rfl ?_
        refine SPL_nil ?_
        refine thenP_n ?_
        refine SP_seq ?_
        refine SP_cond_t rfl ?_
        refine SP_skip ?_
        refine thenP_n ?_
        refine SP_block ?_
        refine SP_seq ?_
        refine SP_region ?_
        refine SPL_y (y_entryM hI' rfl (fun p hp => by simp only [List.flatten_cons, List.mem_append]; simp [hp])) rfl ?_
        refine SPL_y (y_ext rfl rfl) rfl ?_
        refine SPL_y (y_ext rfl rfl) rfl ?_
        refine SPL_y (y_assign rfl) rfl ?_
        refine SPL_y (y_assign rfl) rfl ?_
        refine SPL_nil ?_
        refine thenP_n ?_
        refine SP_seq ?_
        obtain ⟨p, u, hp1, hu1, hu2, hk, hnd, hu3, hpk⟩ := hX.ref1 hpm hi0
        rw [hp1, hu1]
        unfold u64K i32V
        refine SP_region ?_
        refine SPL_y (y_move rfl) rfl ?_
        refine SPL_one rfl (SP1_call (tab_unpack u hu2) Tryz.call233 rfl rfl (by repeat (first | exact Part.nil _ | (apply Part.cons; with_reducible (first | exact P0 | exact P1 | exact P2 | exact P3 | exact P4 | exact P5 | exact P6 | exact P7 | exact P8 | exact P9 | exact P10 | exact P11 | exact P12 | exact P13 | exact P14 | exact P15 | exact P16 | exact P17 | exact P18 | exact P19 | exact P20 | exact P21 | exact P22 | exact P23)) | (apply Part.flat; simp only [List.cons_append, List.nil_append]) | (apply Part.cons; (first | exact P0 | exact P1 | exact P2 | exact P3 | exact P4 | exact P5 | exact P6 | exact P7 | exact P8 | exact P9 | exact P10 | exact P11 | exact P12 | exact P13 | exact P14 | exact P15 | exact P16 | exact P17 | exact P18 | exact P19 | exact P20 | exact P21 | exact P22 | exact P23)) | (apply Part.nilc))) ?_)
        rintro v post H' ⟨rfl, rfl⟩ hH
        try simp only [List.cons_append, List.nil_append] at hH
        subst hH
        refine SPL_one rfl (SP1_alloc Tryz.zeroValue42 rfl rfl ?_)
        intro b18
        refine SPL_one rfl (SP1_storeAll Tryz.sizeOf42 rfl rfl rfl rfl rfl (by first | exact U0 | exact U1 | exact U2 | exact U3 | exact U4 | exact U5 | exact U6 | exact U7 | exact U8 | exact U9 | exact U10 | exact U11 | exact U12 | exact U13 | exact U14 | exact U15 | exact U16 | exact U17 | exact U18 | exact U19 | exact U20 | exact U21 | exact U22 | exact U23) (by rfl) ?_)
        refine SPL_nil ?_
        refine thenP_n ?_
        refine SP_seq ?_
        refine SP_seq ?_
        refine SP_region ?_
        refine SPL_y (y_fa fld_42_0 rfl) rfl ?_
        refine SPL_y (y_load Tryz.isAgg3 rfl (by repeat (first | exact Cell.amid hpre rfl | exact Cell.head rfl | apply Cell.tail))) rfl ?_
        refine SPL_if (y_eql rfl rfl) rfl ?_ ?_
        · intro h35_2
          dsimp only at h35_2
          omega
        intro h35_2
        refine SPL_y (y_move rfl) rfl ?_
        refine SPL_gy rfl rfl ?_
        refine SPL_y (y_fa fld_42_0 rfl) rfl ?_
        refine SPL_gy rfl rfl ?_
        refine SPL_y (y_load Tryz.isAgg3 rfl (by repeat (first | exact Cell.amid hpre rfl | exact Cell.head rfl | apply Cell.tail))) rfl ?_
        refine SPL_gy rfl rfl ?_
        refine SPL_if (y_eql rfl rfl) rfl ?_ ?_
        · intro h35_6
          dsimp only at h35_6
          omega
        intro h35_6
        refine SPL_y (y_pick_f rfl rfl) rfl ?_
        refine SPL_y (y_move rfl) rfl ?_
        refine SPL_gy rfl rfl ?_
        refine SPL_y (y_fa fld_42_0 rfl) rfl ?_
        refine SPL_gy rfl rfl ?_
        refine SPL_y (y_load Tryz.isAgg3 rfl (by repeat (first | exact Cell.amid hpre rfl | exact Cell.head rfl | apply Cell.tail))) rfl ?_
        refine SPL_gy rfl rfl ?_
        refine SPL_if (y_eql rfl rfl) rfl ?_ ?_
        · intro h35_11
          dsimp only at h35_11
          omega
        intro h35_11
        refine SPL_y (y_pick_f rfl rfl) rfl ?_
        refine SPL_nil ?_
        refine thenP_n ?_
        refine SP_cond_f rfl ?_
        refine SP_skip ?_
        refine thenP_n ?_
        refine SP_seq ?_
        refine SP_region ?_
        refine SPL_y (y_move rfl) rfl ?_
        refine SPL_y (y_move rfl) rfl ?_
        refine SPL_y (y_loads Tryz.isAgg42 Tryz.sizeOf42 rfl rfl (by repeat (first | exact Cells.all _ | exact Cells.amid hpre rfl (by decide) | exact Cells.head rfl | apply Cells.tail))) rfl ?_
        refine SPL_one rfl (SP1_call (tab_points tb (0 + ((j : Nat) : Int).toNat * 6) c0 c2 hpre t oa oc so ho _ _ _ _ _ b6 s hS.1 hle1 p _ hk (hS.free hk hnd)) Tryz.call232 rfl rfl (by repeat (first | exact Part.nil _ | (apply Part.cons; with_reducible (first | exact P0 | exact P1 | exact P2 | exact P3 | exact P4 | exact P5 | exact P6 | exact P7 | exact P8 | exact P9 | exact P10 | exact P11 | exact P12 | exact P13 | exact P14 | exact P15 | exact P16 | exact P17 | exact P18 | exact P19 | exact P20 | exact P21 | exact P22 | exact P23)) | (apply Part.flat; simp only [List.cons_append, List.nil_append]) | (apply Part.cons; (first | exact P0 | exact P1 | exact P2 | exact P3 | exact P4 | exact P5 | exact P6 | exact P7 | exact P8 | exact P9 | exact P10 | exact P11 | exact P12 | exact P13 | exact P14 | exact P15 | exact P16 | exact P17 | exact P18 | exact P19 | exact P20 | exact P21 | exact P22 | exact P23)) | (apply Part.nilc))) ?_)
        rintro v post H' ⟨rfl, rfl⟩ hH
        try simp only [List.cons_append, List.nil_append] at hH
        subst hH
        refine SPL_y (y_not_t rfl) rfl ?_
        refine SPL_nil ?_
        refine thenP_n ?_
        refine SP_cond_f rfl ?_
        refine SP_skip ?_
        refine inBlockP_n ?_
        refine thenP_n ?_
        exact Again.intro ((rest.eraseIdx i0, s.set p true, some rest[i0], s')) (⟨hI', d ++ [rest[i0]], perm_at hi0 hpm, hS.put hk (fun k q => q.imp id fun q => q.imp id fun ⟨e, q1, q2⟩ => ⟨e, List.mem_append_left _ q1, q2⟩) (.inr (.inr ⟨rest[i0], by simp, hpk⟩))⟩) (by dsimp only; rw [List.length_eraseIdx_of_lt hi0]; omega) (by repeat (first | exact Sub.nil _ | refine Sub.cons rfl ?_)) (by repeat (first | exact Part.nil _ | (apply Part.cons; with_reducible (first | exact P0 | exact P1 | exact P2 | exact P3 | exact P4 | exact P5 | exact P6 | exact P7 | exact P8 | exact P9 | exact P10 | exact P11 | exact P12 | exact P13 | exact P14 | exact P15 | exact P16 | exact P17 | exact P18 | exact P19 | exact P20 | exact P21 | exact P22 | exact P23)) | (apply Part.flat; simp only [List.cons_append, List.nil_append]) | (apply Part.cons; (first | exact P0 | exact P1 | exact P2 | exact P3 | exact P4 | exact P5 | exact P6 | exact P7 | exact P8 | exact P9 | exact P10 | exact P11 | exact P12 | exact P13 | exact P14 | exact P15 | exact P16 | exact P17 | exact P18 | exact P19 | exact P20 | exact P21 | exact P22 | exact P23)) | (apply Part.nilc)))
    · intro i0 hi0 s' hI'
      refine SPL_y (y_ext rfl rfl) rfl ?_
      refine SPL_nil ?_
      refine thenP_n ?_
      refine SP_seq ?_
      refine SP_cond_t rfl ?_
      refine SP_skip ?_
      refine thenP_n ?_
      refine SP_block ?_
      refine SP_seq ?_
      refine SP_region ?_
      refine SPL_y (y_entryM hI' rfl (fun p hp => by simp only [List.flatten_cons, List.mem_append]; simp [hp])) rfl ?_
      refine SPL_y (y_ext rfl rfl) rfl ?_
      refine SPL_y (y_ext rfl rfl) rfl ?_
      refine SPL_y (y_assign rfl) rfl ?_
      refine SPL_y (y_assign rfl) rfl ?_
      refine SPL_nil ?_
      refine thenP_n ?_
      refine SP_seq ?_
      obtain ⟨p, hp1, hk, hnd⟩ := hX.str1 hpm hi0
      rw [hp1]
      unfold i32V
      refine SP_region ?_
      refine SPL_y (y_move rfl) rfl ?_
      refine SPL_y (y_move rfl) rfl ?_
      refine SPL_y (y_move rfl) rfl ?_
      refine SPL_y (y_build B42 rfl rfl (by simp only [fillL, List.foldl_cons, List.foldl_nil, List.set_cons_zero, List.set_cons_succ]; exact rfl)) rfl ?_
      refine SPL_one rfl (SP1_call (tab_points tb (0 + ((j : Nat) : Int).toNat * 6) c0 c2 hpre t oa oc so ho _ _ _ _ _ b6 s hS.1 hle1 p ⟨3, 0, rest[i0].1⟩ hk (hS.free hk hnd)) Tryz.call232 rfl rfl (by repeat (first | exact Part.nil _ | (apply Part.cons; with_reducible (first | exact P0 | exact P1 | exact P2 | exact P3 | exact P4 | exact P5 | exact P6 | exact P7 | exact P8 | exact P9 | exact P10 | exact P11 | exact P12 | exact P13 | exact P14 | exact P15 | exact P16 | exact P17 | exact P18 | exact P19 | exact P20 | exact P21 | exact P22 | exact P23)) | (apply Part.flat; simp only [List.cons_append, List.nil_append]) | (apply Part.cons; (first | exact P0 | exact P1 | exact P2 | exact P3 | exact P4 | exact P5 | exact P6 | exact P7 | exact P8 | exact P9 | exact P10 | exact P11 | exact P12 | exact P13 | exact P14 | exact P15 | exact P16 | exact P17 | exact P18 | exact P19 | exact P20 | exact P21 | exact P22 | exact P23)) | (apply Part.nilc))) ?_)
      rintro v post H' ⟨rfl, rfl⟩ hH
      try simp only [List.cons_append, List.nil_append] at hH
      subst hH
      refine SPL_y (y_not_t rfl) rfl ?_
      refine SPL_nil ?_
      refine thenP_n ?_
      refine SP_cond_f rfl ?_
      refine SP_skip ?_
      refine inBlockP_n ?_
      refine thenP_n ?_
      exact Again.intro ((rest.eraseIdx i0, s.set p true, some rest[i0], s')) (⟨hI', d ++ [rest[i0]], perm_at hi0 hpm, hS.put hk (fun k q => q.imp id fun ⟨e, q1, q2⟩ => ⟨e, List.mem_append_left _ q1, q2⟩) (.inr ⟨rest[i0], by simp, rfl⟩)⟩) (by dsimp only; rw [List.length_eraseIdx_of_lt hi0]; omega) (by repeat (first | exact Sub.nil _ | refine Sub.cons rfl ?_)) (by repeat (first | exact Part.nil _ | (apply Part.cons; with_reducible (first | exact P0 | exact P1 | exact P2 | exact P3 | exact P4 | exact P5 | exact P6 | exact P7 | exact P8 | exact P9 | exact P10 | exact P11 | exact P12 | exact P13 | exact P14 | exact P15 | exact P16 | exact P17 | exact P18 | exact P19 | exact P20 | exact P21 | exact P22 | exact P23)) | (apply Part.flat; simp only [List.cons_append, List.nil_append]) | (apply Part.cons; (first | exact P0 | exact P1 | exact P2 | exact P3 | exact P4 | exact P5 | exact P6 | exact P7 | exact P8 | exact P9 | exact P10 | exact P11 | exact P12 | exact P13 | exact P14 | exact P15 | exact P16 | exact P17 | exact P18 | exact P19 | exact P20 | exact P21 | exact P22 | exact P23)) | (apply Part.nilc)))
  · intro i0 hi0 s' hI'
    refine SPL_y (y_ext rfl rfl) rfl ?_
    refine SPL_nil ?_
    refine thenP_n ?_
    refine SP_seq ?_
    refine SP_cond_t rfl ?_
    refine SP_skip ?_
    refine thenP_n ?_
    refine SP_block ?_
    refine SP_seq ?_
    refine SP_region ?_
    refine SPL_y (y_entryM hI' rfl (fun p hp => by simp only [List.flatten_cons, List.mem_append]; simp [hp])) rfl ?_
    refine SPL_y (y_ext rfl rfl) rfl ?_
    refine SPL_y (y_ext rfl rfl) rfl ?_
    refine SPL_y (y_assign rfl) rfl ?_
    refine SPL_y (y_assign rfl) rfl ?_
    refine SPL_nil ?_
    refine thenP_n ?_
    refine SP_seq ?_
    refine SP_seq ?_
    obtain ⟨p, hp1, hk, hnd, x, hx1, hx2, hx3, ti, w, hti, htw⟩ := hX.num1 hN hpm hi0
    rw [hx1, hp1]
    rw [hx1] at hk hnd
    unfold u64K i32V
    have hbd := toInt_bd hti
    refine SP_region ?_
    refine SPL_y (y_move rfl) rfl ?_
    refine SPL_y (y_move rfl) rfl ?_
    refine SPL_y (y_move rfl) rfl ?_
    refine SPL_y (y_build B42 rfl rfl (by simp only [fillL, List.foldl_cons, List.foldl_nil, List.set_cons_zero, List.set_cons_succ]; exact rfl)) rfl ?_
    refine SPL_one rfl (SP1_call (tab_points tb (0 + ((j : Nat) : Int).toNat * 6) c0 c2 hpre t oa oc so ho _ _ _ _ _ b6 s hS.1 hle1 p ⟨2, (x : Int), []⟩ hk (hS.free hk hnd)) Tryz.call232 rfl rfl (by repeat (first | exact Part.nil _ | (apply Part.cons; with_reducible (first | exact P0 | exact P1 | exact P2 | exact P3 | exact P4 | exact P5 | exact P6 | exact P7 | exact P8 | exact P9 | exact P10 | exact P11 | exact P12 | exact P13 | exact P14 | exact P15 | exact P16 | exact P17 | exact P18 | exact P19 | exact P20 | exact P21 | exact P22 | exact P23)) | (apply Part.flat; simp only [List.cons_append, List.nil_append]) | (apply Part.cons; (first | exact P0 | exact P1 | exact P2 | exact P3 | exact P4 | exact P5 | exact P6 | exact P7 | exact P8 | exact P9 | exact P10 | exact P11 | exact P12 | exact P13 | exact P14 | exact P15 | exact P16 | exact P17 | exact P18 | exact P19 | exact P20 | exact P21 | exact P22 | exact P23)) | (apply Part.nilc))) ?_)
    rintro v post H' ⟨rfl, rfl⟩ hH
    try simp only [List.cons_append, List.nil_append] at hH
    subst hH
    refine SPL_y (y_not_t rfl) rfl ?_
    refine SPL_nil ?_
    refine thenP_n ?_
    refine SP_cond_f rfl ?_
    refine SP_skip ?_
    refine thenP_n ?_
    refine SP_seq ?_
    refine SP_seq ?_
    refine SP_region ?_
    refine SPL_y (y_move rfl) rfl ?_
    refine SPL_if (y_eql rfl rfl) rfl ?_ ?_
    · intro h21_1
      omega
    intro h21_1
    refine SPL_y (y_move rfl) rfl ?_
    refine SPL_gy rfl rfl ?_
    refine SPL_y (y_move rfl) rfl ?_
    refine SPL_gy rfl rfl ?_
    refine SPL_y (y_nil rfl) rfl ?_
    refine SPL_gy rfl rfl ?_
    refine SPL_y (y_fa fld_103_0 rfl) rfl ?_
    refine SPL_gy rfl rfl ?_
    refine SPL_y (y_load Tryz.isAgg37 rfl (by repeat (first | exact Cell.amid hpre rfl | exact Cell.head rfl | apply Cell.tail))) rfl ?_
    refine SPL_gy rfl rfl ?_
    refine SPL_y (y_move rfl) rfl ?_
    refine SPL_gy rfl rfl ?_
    refine SPL_y (y_move rfl) rfl ?_
    refine SPL_gy rfl rfl ?_
    refine SPL_one rfl (SP1_call (num_Cmp (.pointer (some ⟨nb, 0, none⟩)) 2 x x) Tryz.call133 rfl rfl (by repeat (first | exact Part.nil _ | (apply Part.cons; with_reducible (first | exact P0 | exact P1 | exact P2 | exact P3 | exact P4 | exact P5 | exact P6 | exact P7 | exact P8 | exact P9 | exact P10 | exact P11 | exact P12 | exact P13 | exact P14 | exact P15 | exact P16 | exact P17 | exact P18 | exact P19 | exact P20 | exact P21 | exact P22 | exact P23)) | (apply Part.flat; simp only [List.cons_append, List.nil_append]) | (apply Part.cons; (first | exact P0 | exact P1 | exact P2 | exact P3 | exact P4 | exact P5 | exact P6 | exact P7 | exact P8 | exact P9 | exact P10 | exact P11 | exact P12 | exact P13 | exact P14 | exact P15 | exact P16 | exact P17 | exact P18 | exact P19 | exact P20 | exact P21 | exact P22 | exact P23)) | (apply Part.nilc))) ?_)
    rintro v post H' ⟨rfl, rfl⟩ hH
    try simp only [List.cons_append, List.nil_append] at hH
    subst hH
    rw [hx3]
    refine SPL_y (y_pick_f rfl rfl) rfl ?_
    refine SPL_nil ?_
    refine thenP_n ?_
    refine SP_cond_f rfl ?_
    refine SP_skip ?_
    refine thenP_n ?_
    refine SP_seq ?_
    refine SP_region ?_
    refine SPL_y (y_move rfl) rfl ?_
    refine SPL_y (y_nil rfl) rfl ?_
    refine SPL_y (y_fa fld_103_0 rfl) rfl ?_
    refine SPL_y (y_load Tryz.isAgg37 rfl (by repeat (first | exact Cell.amid hpre rfl | exact Cell.head rfl | apply Cell.tail))) rfl ?_
    refine SPL_y (y_move rfl) rfl ?_
    refine SPL_one rfl (SP1_call (num_ToInt (.pointer (some ⟨nb, 0, none⟩)) x ti w hti) Tryz.call209 rfl rfl (by repeat (first | exact Part.nil _ | (apply Part.cons; with_reducible (first | exact P0 | exact P1 | exact P2 | exact P3 | exact P4 | exact P5 | exact P6 | exact P7 | exact P8 | exact P9 | exact P10 | exact P11 | exact P12 | exact P13 | exact P14 | exact P15 | exact P16 | exact P17 | exact P18 | exact P19 | exact P20 | exact P21 | exact P22 | exact P23)) | (apply Part.flat; simp only [List.cons_append, List.nil_append]) | (apply Part.cons; (first | exact P0 | exact P1 | exact P2 | exact P3 | exact P4 | exact P5 | exact P6 | exact P7 | exact P8 | exact P9 | exact P10 | exact P11 | exact P12 | exact P13 | exact P14 | exact P15 | exact P16 | exact P17 | exact P18 | exact P19 | exact P20 | exact P21 | exact P22 | exact P23)) | (apply Part.nilc))) ?_)
    rintro v post H' ⟨rfl, rfl⟩ hH
    try simp only [List.cons_append, List.nil_append] at hH
    subst hH
    refine SPL_y (y_move rfl) rfl ?_
    refine SPL_y (y_ext rfl rfl) rfl ?_
    refine SPL_y (y_ext rfl rfl) rfl ?_
    rcases w with _ | _
    · refine SPL_y (y_assign rfl) rfl ?_
      refine SPL_y (y_assign rfl) rfl ?_
      refine SPL_nil ?_
      refine thenP_n ?_
      refine SP_seq ?_
      refine SP_region ?_
      refine SPL_y (y_move rfl) rfl ?_
      refine SPL_y (y_move rfl) rfl ?_
      refine SPL_gn rfl rfl rfl rfl ?_
      refine SPL_gn rfl rfl rfl rfl ?_
      refine SPL_y (y_pick_f rfl rfl) rfl ?_
      refine SPL_y (y_move rfl) rfl ?_
      refine SPL_gn rfl rfl rfl rfl ?_
      refine SPL_gn rfl rfl rfl rfl ?_
      refine SPL_gn rfl rfl rfl rfl ?_
      refine SPL_gn rfl rfl rfl rfl ?_
      refine SPL_gn rfl rfl rfl rfl ?_
      refine SPL_gn rfl rfl rfl rfl ?_
      refine SPL_gn rfl rfl rfl rfl ?_
      refine SPL_y (y_pick_f rfl rfl) rfl ?_
      refine SPL_nil ?_
      refine thenP_n ?_
      refine SP_cond_f rfl ?_
      refine SP_skip ?_
      refine inBlockP_n ?_
      refine thenP_n ?_
      exact Again.intro ((rest.eraseIdx i0, s.set p true, some rest[i0], s')) (⟨hI', d ++ [rest[i0]], perm_at hi0 hpm, hS.put hk (fun k q => q.imp id fun ⟨e, q1, q2⟩ => ⟨e, List.mem_append_left _ q1, q2⟩) (.inr ⟨rest[i0], by simp, by rw [hx1]⟩)⟩) (by dsimp only; rw [List.length_eraseIdx_of_lt hi0]; omega) (by repeat (first | exact Sub.nil _ | refine Sub.cons rfl ?_)) (by repeat (first | exact Part.nil _ | (apply Part.cons; with_reducible (first | exact P0 | exact P1 | exact P2 | exact P3 | exact P4 | exact P5 | exact P6 | exact P7 | exact P8 | exact P9 | exact P10 | exact P11 | exact P12 | exact P13 | exact P14 | exact P15 | exact P16 | exact P17 | exact P18 | exact P19 | exact P20 | exact P21 | exact P22 | exact P23)) | (apply Part.flat; simp only [List.cons_append, List.nil_append]) | (apply Part.cons; (first | exact P0 | exact P1 | exact P2 | exact P3 | exact P4 | exact P5 | exact P6 | exact P7 | exact P8 | exact P9 | exact P10 | exact P11 | exact P12 | exact P13 | exact P14 | exact P15 | exact P16 | exact P17 | exact P18 | exact P19 | exact P20 | exact P21 | exact P22 | exact P23)) | (apply Part.nilc)))
    · refine SPL_y (y_assign rfl) rfl ?_
      refine SPL_y (y_assign rfl) rfl ?_
      refine SPL_nil ?_
      refine thenP_n ?_
      refine SP_seq ?_
      refine SP_region ?_
      refine SPL_y (y_move rfl) rfl ?_
      refine SPL_y (y_move rfl) rfl ?_
      refine SPL_gy rfl rfl ?_
      refine SPL_y (y_move rfl) rfl ?_
      refine SPL_gy rfl rfl ?_
      refine SPL_ifn (y_geq rfl rfl) rfl ?_ ?_
      · intro h24_3
        refine SPL_y (y_pick_t rfl rfl) rfl ?_
        refine SPL_y (y_move rfl) rfl ?_
        refine SPL_gn rfl rfl rfl rfl ?_
        refine SPL_gn rfl rfl rfl rfl ?_
        refine SPL_gn rfl rfl rfl rfl ?_
        refine SPL_gn rfl rfl rfl rfl ?_
        refine SPL_gn rfl rfl rfl rfl ?_
        refine SPL_gn rfl rfl rfl rfl ?_
        refine SPL_gn rfl rfl rfl rfl ?_
        refine SPL_y (y_pick_f rfl rfl) rfl ?_
        refine SPL_nil ?_
        refine thenP_n ?_
        refine SP_cond_f rfl ?_
        refine SP_skip ?_
        refine inBlockP_n ?_
        refine thenP_n ?_
        exact Again.intro ((rest.eraseIdx i0, s.set p true, some rest[i0], s')) (⟨hI', d ++ [rest[i0]], perm_at hi0 hpm, hS.put hk (fun k q => q.imp id fun ⟨e, q1, q2⟩ => ⟨e, List.mem_append_left _ q1, q2⟩) (.inr ⟨rest[i0], by simp, by rw [hx1]⟩)⟩) (by dsimp only; rw [List.length_eraseIdx_of_lt hi0]; omega) (by repeat (first | exact Sub.nil _ | refine Sub.cons rfl ?_)) (by repeat (first | exact Part.nil _ | (apply Part.cons; with_reducible (first | exact P0 | exact P1 | exact P2 | exact P3 | exact P4 | exact P5 | exact P6 | exact P7 | exact P8 | exact P9 | exact P10 | exact P11 | exact P12 | exact P13 | exact P14 | exact P15 | exact P16 | exact P17 | exact P18 | exact P19 | exact P20 | exact P21 | exact P22 | exact P23)) | (apply Part.flat; simp only [List.cons_append, List.nil_append]) | (apply Part.cons; (first | exact P0 | exact P1 | exact P2 | exact P3 | exact P4 | exact P5 | exact P6 | exact P7 | exact P8 | exact P9 | exact P10 | exact P11 | exact P12 | exact P13 | exact P14 | exact P15 | exact P16 | exact P17 | exact P18 | exact P19 | exact P20 | exact P21 | exact P22 | exact P23)) | (apply Part.nilc)))
      intro h24_3
      refine SPL_y (y_pick_t rfl rfl) rfl ?_
      refine SPL_y (y_move rfl) rfl ?_
      refine SPL_gy rfl rfl ?_
      refine SPL_y (y_move rfl) rfl ?_
      refine SPL_gy rfl rfl ?_
      refine SPL_y (y_move rfl) rfl ?_
      refine SPL_gy rfl rfl ?_
      refine SPL_y (y_nil rfl) rfl ?_
      refine SPL_gy rfl rfl ?_
      refine SPL_y (y_fa fld_245_1 rfl) rfl ?_
      refine SPL_gy rfl rfl ?_
      refine SPL_y (y_load Tryz.isAgg241 rfl (by repeat (first | exact Cell.amid hpre rfl | exact Cell.head rfl | apply Cell.tail))) rfl ?_
      refine SPL_gy rfl rfl ?_
      refine SPL_y (y_len_l Tryz.underlying241 rfl) rfl ?_
      refine SPL_gy rfl rfl ?_
      refine SPL_if (y_leq rfl rfl) rfl ?_ ?_
      · intro h24_12
        have htw2 := htw rfl
        omega
      intro h24_12
      refine SPL_y (y_pick_t rfl rfl) rfl ?_
      refine SPL_nil ?_
      refine thenP_n ?_
      refine SP_cond_f rfl ?_
      refine SP_skip ?_
      refine inBlockP_n ?_
      refine thenP_n ?_
      exact Again.intro ((rest.eraseIdx i0, s.set p true, some rest[i0], s')) (⟨hI', d ++ [rest[i0]], perm_at hi0 hpm, hS.put hk (fun k q => q.imp id fun ⟨e, q1, q2⟩ => ⟨e, List.mem_append_left _ q1, q2⟩) (.inr ⟨rest[i0], by simp, by rw [hx1]⟩)⟩) (by dsimp only; rw [List.length_eraseIdx_of_lt hi0]; omega) (by repeat (first | exact Sub.nil _ | refine Sub.cons rfl ?_)) (by repeat (first | exact Part.nil _ | (apply Part.cons; with_reducible (first | exact P0 | exact P1 | exact P2 | exact P3 | exact P4 | exact P5 | exact P6 | exact P7 | exact P8 | exact P9 | exact P10 | exact P11 | exact P12 | exact P13 | exact P14 | exact P15 | exact P16 | exact P17 | exact P18 | exact P19 | exact P20 | exact P21 | exact P22 | exact P23)) | (apply Part.flat; simp only [List.cons_append, List.nil_append]) | (apply Part.cons; (first | exact P0 | exact P1 | exact P2 | exact P3 | exact P4 | exact P5 | exact P6 | exact P7 | exact P8 | exact P9 | exact P10 | exact P11 | exact P12 | exact P13 | exact P14 | exact P15 | exact P16 | exact P17 | exact P18 | exact P19 | exact P20 | exact P21 | exact P22 | exact P23)) | (apply Part.nilc)))

end Go.Sl
