/- Walks: package table, one table (made by program out of short notes) -/
import Derived.Test.Qxb6500573aGreatDoorVEq
namespace Go.Sl
open Go Go.Wl Go.Proofs
set_option maxRecDepth 100000
set_option linter.unusedVariables false
set_option linter.unusedSimpArgs false
theorem tab_pack (k : V) : Spec Tryz.prog 210 [.agg (valV k).toArray] [] (Ret fun v H => v = .int .u64 (packM k) ∧ H = []) := by
  obtain ⟨t, n, s⟩ := k
  dsimp only [valV]
  refine Spec_enter Tryz.func210 rfl Tryz.ntmps210 rfl ?_
  show SP _ _ _ _ _ [(0, _)] _
  refine SP_seq ?_
  refine SP_region ?_
  refine SPL_one rfl (SP1_box rfl rfl rfl ?_)
  intro b1
  refine SPL_y (y_assign rfl) rfl ?_
  refine SPL_nil ?_
  refine thenP_n ?_
  refine SP_seq ?_
  refine SP_region ?_
  refine SPL_y (y_fa fld_42_0 rfl) rfl ?_
  refine SPL_y (y_load Tryz.isAgg3 rfl (by repeat (first | exact Cell.head rfl | exact Cell.amid hpre rfl | apply Cell.tail))) rfl ?_
  refine SPL_y (y_conv Tryz.underlying3 Tryz.underlying40 rfl rfl) rfl ?_
  refine SPL_y (y_shl rfl rfl (by first | omega | decide) rfl) rfl ?_
  refine SPL_y (y_fa fld_42_1 rfl) rfl ?_
  refine SPL_y (y_load Tryz.isAgg40 rfl (by repeat (first | exact Cell.head rfl | exact Cell.amid hpre rfl | apply Cell.tail))) rfl ?_
  refine SPL_y (y_or rfl rfl rfl) rfl ?_
  refine SPL_y (y_assign rfl) rfl ?_
  refine SPL_nil ?_
  refine thenP_n ?_
  refine SP_ret ?_
  refine bodyP_ret (H' := []) (Res1 rfl rfl) (by repeat (first | exact Part.nil _ | (apply Part.cons; (first | exact P0 | exact P1 | exact P2 | exact P3 | exact P4 | exact P5 | exact P6 | exact P7 | exact P8 | exact P9 | exact P10 | exact P11 | exact P12 | exact P13 | exact P14 | exact P15 | exact P16 | exact P17 | exact P18 | exact P19 | exact P20 | exact P21 | exact P22 | exact P23)) | (apply Part.flat; simp only [List.cons_append, List.nil_append]) | (apply Part.nilc))) ?_
  exact ⟨rfl, rfl⟩

theorem tab_isNil (k : V) : Spec Tryz.prog 137 [.agg (valV k).toArray] [] (Ret fun v H => v = .bool (isNilV k) ∧ H = []) := by
  obtain ⟨t, n, s⟩ := k
  dsimp only [valV]
  refine Spec_enter Tryz.func137 rfl Tryz.ntmps137 rfl ?_
  show SP _ _ _ _ _ [(0, _)] _
  refine SP_seq ?_
  refine SP_region ?_
  refine SPL_one rfl (SP1_box rfl rfl rfl ?_)
  intro b1
  refine SPL_y (y_assign rfl) rfl ?_
  refine SPL_nil ?_
  refine thenP_n ?_
  refine SP_seq ?_
  refine SP_region ?_
  refine SPL_y (y_loads Tryz.isAgg42 Tryz.sizeOf42 rfl rfl (by repeat (first | exact Cells.all _ | exact Cells.head rfl | exact Cells.amid hpre rfl (by decide) | apply Cells.tail))) rfl ?_
  refine SPL_y (y_build B42 rfl rfl (by simp only [fillL, List.foldl_cons, List.foldl_nil, List.set_cons_zero, List.set_cons_succ]; exact rfl)) rfl ?_
  refine SPL_y (y_veq (a := ⟨t, n, s⟩) (b := V.nil) rfl rfl) rfl ?_
  refine SPL_y (y_assign rfl) rfl ?_
  refine SPL_nil ?_
  refine thenP_n ?_
  refine SP_ret ?_
  refine bodyP_ret (H' := []) (Res1 rfl rfl) (by repeat (first | exact Part.nil _ | (apply Part.cons; (first | exact P0 | exact P1 | exact P2 | exact P3 | exact P4 | exact P5 | exact P6 | exact P7 | exact P8 | exact P9 | exact P10 | exact P11 | exact P12 | exact P13 | exact P14 | exact P15 | exact P16 | exact P17 | exact P18 | exact P19 | exact P20 | exact P21 | exact P22 | exact P23)) | (apply Part.flat; simp only [List.cons_append, List.nil_append]) | (apply Part.nilc))) ?_
  exact ⟨rfl, rfl⟩

theorem tab_one (b : Nat) (nv : Value) (r1 r2 : Value) (k : V) (hk : 0 ≤ k.n) (k2 : V) (i : Int) (h : oneV k = some (k2, i)) : Spec Tryz.prog 134 [.pointer (some ⟨b, 0, none⟩), .agg (valV k).toArray] [blk b 103 [nv, r1, r2]] (Ret fun v H => v = .tuple #[.agg (valV k2).toArray, I i] ∧ H = [blk b 103 [nv, r1, r2]]) := by
  obtain ⟨t, n, s⟩ := k
  obtain ⟨m, rfl⟩ : ∃ m : Nat, n = m := ⟨n.toNat, by dsimp only at hk; omega⟩
  dsimp only [valV]
  unfold oneV at h
  dsimp only at h
  refine Spec_enter Tryz.func134 rfl Tryz.ntmps134 rfl ?_
  show SP _ _ _ _ _ [(0, _), (1, _)] _
  refine SP_seq ?_
  refine SP_region ?_
  refine SPL_one rfl (SP1_box rfl rfl rfl ?_)
  intro b3
  refine SPL_one rfl (SP1_alloc Tryz.zeroValue42 rfl rfl ?_)
  intro b4
  refine SPL_y (y_assign rfl) rfl ?_
  refine SPL_nil ?_
  refine thenP_n ?_
  refine SP_seq ?_
  refine SP_seq ?_
  refine SP_region ?_
  refine SPL_y (y_fa fld_42_0 rfl) rfl ?_
  refine SPL_y (y_load Tryz.isAgg3 rfl (by repeat (first | exact Cell.head rfl | exact Cell.amid hpre rfl | apply Cell.tail))) rfl ?_
  refine SPL_if (y_neq rfl rfl) rfl ?_ ?_
  · intro h1_2
    refine SPL_nil ?_
    refine thenP_n ?_
    refine SP_cond_t rfl ?_
    refine SP_seq ?_
    refine SP_region ?_
    refine SPL_y (y_loads Tryz.isAgg42 Tryz.sizeOf42 rfl rfl (by repeat (first | exact Cells.all _ | exact Cells.head rfl | exact Cells.amid hpre rfl (by decide) | apply Cells.tail))) rfl ?_
    refine SPL_one rfl (SP1_storeAll Tryz.sizeOf42 rfl rfl rfl rfl rfl (by first | exact U0 | exact U1 | exact U2 | exact U3 | exact U4 | exact U5 | exact U6 | exact U7 | exact U8 | exact U9 | exact U10 | exact U11 | exact U12 | exact U13 | exact U14 | exact U15 | exact U16 | exact U17 | exact U18 | exact U19 | exact U20 | exact U21 | exact U22 | exact U23) (by rfl) ?_)
    refine SPL_y (y_assign rfl) rfl ?_
    refine SPL_nil ?_
    refine thenP_n ?_
    refine SP_ret ?_
    refine thenP_ret (bodyP_ret (H' := [blk b 103 [nv, r1, r2]]) (ResCT rfl rfl rfl Tryz.isAgg42 Tryz.sizeOf42 rfl (by repeat (first | exact Cells.all _ | exact Cells.head rfl | apply Cells.tail))) (by repeat (first | exact Part.nil _ | (apply Part.cons; (first | exact P0 | exact P1 | exact P2 | exact P3 | exact P4 | exact P5 | exact P6 | exact P7 | exact P8 | exact P9 | exact P10 | exact P11 | exact P12 | exact P13 | exact P14 | exact P15 | exact P16 | exact P17 | exact P18 | exact P19 | exact P20 | exact P21 | exact P22 | exact P23)) | (apply Part.flat; simp only [List.cons_append, List.nil_append]) | (apply Part.nilc))) ?_)
    rw [if_pos h1_2] at h
    cases h
    exact ⟨rfl, rfl⟩
  intro h1_2
  refine SPL_nil ?_
  refine thenP_n ?_
  refine SP_cond_f rfl ?_
  refine SP_skip ?_
  refine thenP_n ?_
  refine SP_seq ?_
  rw [if_neg h1_2, Int.toNat_natCast] at h
  obtain ⟨j, w, hj⟩ : ∃ j w, toIntM m = some (j, w) := by
    cases hq : toIntM m with
    | none => rw [hq] at h; cases h
    | some r => exact ⟨r.1, r.2, rfl⟩
  rw [hj] at h
  dsimp only at h
  refine SP_draw 6 [(0, 0), (1, 0), (2, 0), (4, 0), (3, 1), (5, 1), (6, 3), (7, 0), (8, 0), (9, 0), (10, 0), (11, 0)] mixed (by kernel_rfl) (fun _ _ _ _ _ h => h) (Part.refl _) ?_
  refine SPO_p rfl (y_move rfl) rfl ?_
  refine SPO_p rfl (y_nil rfl) rfl ?_
  refine SPO_p rfl (y_fa fld_103_0 rfl) rfl ?_
  refine SPO_p rfl (y_fa fld_42_1 rfl) rfl ?_
  refine SPO_h rfl (y_load Tryz.isAgg37 rfl (by repeat (first | exact Cell.head rfl | exact Cell.amid hpre rfl | apply Cell.tail))) rfl ?_
  refine SPO_h rfl (y_load Tryz.isAgg40 rfl (by repeat (first | exact Cell.head rfl | exact Cell.amid hpre rfl | apply Cell.tail))) rfl ?_
  refine SPO_z (k := 0) rfl rfl (SP1_call (num_ToInt nv m j w hj) Tryz.call209 rfl rfl (by repeat (first | exact Part.nil _ | (apply Part.cons; (first | exact P0 | exact P1 | exact P2 | exact P3 | exact P4 | exact P5 | exact P6 | exact P7 | exact P8 | exact P9 | exact P10 | exact P11 | exact P12 | exact P13 | exact P14 | exact P15 | exact P16 | exact P17 | exact P18 | exact P19 | exact P20 | exact P21 | exact P22 | exact P23)) | (apply Part.flat; simp only [List.cons_append, List.nil_append]) | (apply Part.nilc))) ?_)
  rintro v post H' ⟨rfl, rfl⟩ hH
  try simp only [List.cons_append, List.nil_append] at hH
  subst hH
  refine SPO_p rfl (y_move rfl) rfl ?_
  refine SPO_p rfl (y_ext rfl rfl) rfl ?_
  refine SPO_p rfl (y_ext rfl rfl) rfl ?_
  rcases w with _ | _
  · refine SPO_p rfl (y_assign rfl) rfl ?_
    refine SPO_p rfl (y_assign rfl) rfl ?_
    refine SPO_nil ?_
    refine thenP_n ?_
    refine SP_seq ?_
    refine SP_seq ?_
    refine SP_region ?_
    refine SPL_y (y_move rfl) rfl ?_
    refine SPL_y (y_not_f rfl) rfl ?_
    refine SPL_nil ?_
    refine thenP_n ?_
    refine SP_cond_t rfl ?_
    refine SP_seq ?_
    refine SP_region ?_
    refine SPL_y (y_loads Tryz.isAgg42 Tryz.sizeOf42 rfl rfl (by repeat (first | exact Cells.all _ | exact Cells.head rfl | exact Cells.amid hpre rfl (by decide) | apply Cells.tail))) rfl ?_
    refine SPL_one rfl (SP1_storeAll Tryz.sizeOf42 rfl rfl rfl rfl rfl (by first | exact U0 | exact U1 | exact U2 | exact U3 | exact U4 | exact U5 | exact U6 | exact U7 | exact U8 | exact U9 | exact U10 | exact U11 | exact U12 | exact U13 | exact U14 | exact U15 | exact U16 | exact U17 | exact U18 | exact U19 | exact U20 | exact U21 | exact U22 | exact U23) (by rfl) ?_)
    refine SPL_y (y_assign rfl) rfl ?_
    refine SPL_nil ?_
    refine thenP_n ?_
    refine SP_ret ?_
    refine thenP_ret (bodyP_ret (H' := [blk b 103 [nv, r1, r2]]) (ResCT rfl rfl rfl Tryz.isAgg42 Tryz.sizeOf42 rfl (by repeat (first | exact Cells.all _ | exact Cells.head rfl | apply Cells.tail))) (by repeat (first | exact Part.nil _ | (apply Part.cons; (first | exact P0 | exact P1 | exact P2 | exact P3 | exact P4 | exact P5 | exact P6 | exact P7 | exact P8 | exact P9 | exact P10 | exact P11 | exact P12 | exact P13 | exact P14 | exact P15 | exact P16 | exact P17 | exact P18 | exact P19 | exact P20 | exact P21 | exact P22 | exact P23)) | (apply Part.flat; simp only [List.cons_append, List.nil_append]) | (apply Part.nilc))) ?_)
    rw [if_pos rfl] at h
    cases h
    exact ⟨rfl, rfl⟩
  · refine SPO_p rfl (y_assign rfl) rfl ?_
    refine SPO_p rfl (y_assign rfl) rfl ?_
    refine SPO_nil ?_
    refine thenP_n ?_
    refine SP_seq ?_
    refine SP_seq ?_
    refine SP_region ?_
    refine SPL_y (y_move rfl) rfl ?_
    refine SPL_y (y_not_t rfl) rfl ?_
    refine SPL_nil ?_
    refine thenP_n ?_
    refine SP_cond_f rfl ?_
    refine SP_skip ?_
    refine thenP_n ?_
    refine SP_seq ?_
    refine SP_seq ?_
    refine SP_region ?_
    refine SPL_y (y_move rfl) rfl ?_
    refine SPL_ifn (y_eql rfl rfl) rfl ?_ ?_
    · intro h6_1
      refine SPL_nil ?_
      refine thenP_n ?_
      refine SP_cond_f rfl ?_
      refine SP_skip ?_
      refine thenP_n ?_
      refine SP_seq ?_
      refine SP_region ?_
      refine SPL_y (y_loads Tryz.isAgg42 Tryz.sizeOf42 rfl rfl (by repeat (first | exact Cells.all _ | exact Cells.head rfl | exact Cells.amid hpre rfl (by decide) | apply Cells.tail))) rfl ?_
      refine SPL_y (y_move rfl) rfl ?_
      refine SPL_one rfl (SP1_storeAll Tryz.sizeOf42 rfl rfl rfl rfl rfl (by first | exact U0 | exact U1 | exact U2 | exact U3 | exact U4 | exact U5 | exact U6 | exact U7 | exact U8 | exact U9 | exact U10 | exact U11 | exact U12 | exact U13 | exact U14 | exact U15 | exact U16 | exact U17 | exact U18 | exact U19 | exact U20 | exact U21 | exact U22 | exact U23) (by rfl) ?_)
      refine SPL_y (y_assign rfl) rfl ?_
      refine SPL_nil ?_
      refine thenP_n ?_
      refine SP_ret ?_
      refine bodyP_ret (H' := [blk b 103 [nv, r1, r2]]) (ResCT rfl rfl rfl Tryz.isAgg42 Tryz.sizeOf42 rfl (by repeat (first | exact Cells.all _ | exact Cells.head rfl | apply Cells.tail))) (by repeat (first | exact Part.nil _ | (apply Part.cons; (first | exact P0 | exact P1 | exact P2 | exact P3 | exact P4 | exact P5 | exact P6 | exact P7 | exact P8 | exact P9 | exact P10 | exact P11 | exact P12 | exact P13 | exact P14 | exact P15 | exact P16 | exact P17 | exact P18 | exact P19 | exact P20 | exact P21 | exact P22 | exact P23)) | (apply Part.flat; simp only [List.cons_append, List.nil_append]) | (apply Part.nilc))) ?_
      rw [if_neg (by decide), if_neg h6_1] at h
      cases h
      exact ⟨rfl, rfl⟩
    intro h6_1
    refine SPL_nil ?_
    refine thenP_n ?_
    refine SP_cond_t rfl ?_
    refine SP_region ?_
    refine SPL_y (y_fa fld_42_1 rfl) rfl ?_
    refine SPL_one rfl (SP1_store Tryz.sizeOf40 rfl rfl rfl (by first | exact U0 | exact U1 | exact U2 | exact U3 | exact U4 | exact U5 | exact U6 | exact U7 | exact U8 | exact U9 | exact U10 | exact U11 | exact U12 | exact U13 | exact U14 | exact U15 | exact U16 | exact U17 | exact U18 | exact U19 | exact U20 | exact U21 | exact U22 | exact U23) (by rfl) ?_)
    refine SPL_nil ?_
    refine thenP_n ?_
    refine SP_seq ?_
    refine SP_region ?_
    refine SPL_y (y_loads Tryz.isAgg42 Tryz.sizeOf42 rfl rfl (by repeat (first | exact Cells.all _ | exact Cells.head rfl | exact Cells.amid hpre rfl (by decide) | apply Cells.tail))) rfl ?_
    refine SPL_y (y_move rfl) rfl ?_
    refine SPL_one rfl (SP1_storeAll Tryz.sizeOf42 rfl rfl rfl rfl rfl (by first | exact U0 | exact U1 | exact U2 | exact U3 | exact U4 | exact U5 | exact U6 | exact U7 | exact U8 | exact U9 | exact U10 | exact U11 | exact U12 | exact U13 | exact U14 | exact U15 | exact U16 | exact U17 | exact U18 | exact U19 | exact U20 | exact U21 | exact U22 | exact U23) (by rfl) ?_)
    refine SPL_y (y_assign rfl) rfl ?_
    refine SPL_nil ?_
    refine thenP_n ?_
    refine SP_ret ?_
    refine bodyP_ret (H' := [blk b 103 [nv, r1, r2]]) (ResCT rfl rfl rfl Tryz.isAgg42 Tryz.sizeOf42 rfl (by repeat (first | exact Cells.all _ | exact Cells.head rfl | apply Cells.tail))) (by repeat (first | exact Part.nil _ | (apply Part.cons; (first | exact P0 | exact P1 | exact P2 | exact P3 | exact P4 | exact P5 | exact P6 | exact P7 | exact P8 | exact P9 | exact P10 | exact P11 | exact P12 | exact P13 | exact P14 | exact P15 | exact P16 | exact P17 | exact P18 | exact P19 | exact P20 | exact P21 | exact P22 | exact P23)) | (apply Part.flat; simp only [List.cons_append, List.nil_append]) | (apply Part.nilc))) ?_
    rw [if_neg (by decide), if_pos h6_1] at h
    cases h
    exact ⟨rfl, rfl⟩

theorem arr_cell {l : List Int} {sp : List Value} {b : Nat} {T : TypeId} {H : Hp} {j : Int} (h0 : 0 ≤ j) (hj : j < l.length) : Cell (blk b T (l.map i32V ++ sp) :: H) b (0 + j.toNat * 1) (i32V (l.getD j.toNat 0)) := by
  refine Cell.head ?_
  have hl : j.toNat < l.length := by omega
  rw [show 0 + j.toNat * 1 = j.toNat by omega, List.getElem?_append_left (by simpa using hl), List.getElem?_map, List.getD_eq_getElem?_getD, List.getElem?_eq_getElem hl]
  rfl
theorem tab_find (b o : Nat) (pre post : List Value) (hpre : pre.length = o) (t : Tb) (oa aa : Option Addr) (oc ac nb sb rb : Nat) (so sa sn ss sr : Seg) (ho : Arr 257 6 oa t.order.length oc (t.order.flatMap entV) so) (ha : Arr 21 1 aa t.arr.length ac (t.arr.map i32V) sa) (hn : isMap u64K i32V nb t.nums sn) (hs : isMap S i32V sb t.strs ss) (hr : isMap u64K i32V rb t.refs sr) (k : V) (i : Int) (hi : -9223372036854775808 ≤ i ∧ i ≤ 9223372036854775807) : Spec Tryz.prog 135 [.pointer (some ⟨b, o, none⟩), .agg (valV k).toArray, I i] [blk b 245 (pre ++ [.slice oa t.order.length oc, .slice aa t.arr.length ac, .map (some nb), .map (some sb), .map (some rb), I (t.dead)] ++ post), so, sa, sn, ss, sr] (Ret fun v H => v = I (t.find k i) ∧ H = [blk b 245 (pre ++ [.slice oa t.order.length oc, .slice aa t.arr.length ac, .map (some nb), .map (some sb), .map (some rb), I (t.dead)] ++ post), so, sa, sn, ss, sr]) := by
  obtain ⟨kt, kn, ks⟩ := k
  dsimp only [valV]
  refine Spec_enter Tryz.func135 rfl Tryz.ntmps135 rfl ?_
  show SP _ _ _ _ _ [(0, _), (1, _), (2, _)] _
  refine SP_seq ?_
  refine SP_region ?_
  refine SPL_one rfl (SP1_box rfl rfl rfl ?_)
  intro b4
  refine SPL_y (y_assign rfl) rfl ?_
  refine SPL_nil ?_
  refine thenP_n ?_
  refine SP_seq ?_
  refine SP_seq ?_
  refine SP_region ?_
  refine SPL_y (y_move rfl) rfl ?_
  refine SPL_ifn (y_geq rfl rfl) rfl ?_ ?_
  · intro h1_1
    refine SPL_y (y_move rfl) rfl ?_
    refine SPL_gn rfl rfl rfl rfl ?_
    refine SPL_gn rfl rfl rfl rfl ?_
    refine SPL_gn rfl rfl rfl rfl ?_
    refine SPL_gn rfl rfl rfl rfl ?_
    refine SPL_gn rfl rfl rfl rfl ?_
    refine SPL_gn rfl rfl rfl rfl ?_
    refine SPL_gn rfl rfl rfl rfl ?_
    refine SPL_y (y_pick_f rfl rfl) rfl ?_
    refine SPL_nil ?_
    refine thenP_n ?_
    refine SP_cond_f rfl ?_
    refine SP_skip ?_
    refine thenP_n ?_
    refine SP_seq ?_
    refine SP_region ?_
    refine SPL_y (y_assign rfl) rfl ?_
    refine SPL_nil ?_
    refine thenP_n ?_
    refine SP_seq ?_
    refine SP_region ?_
    refine SPL_y (y_assign rfl) rfl ?_
    refine SPL_nil ?_
    refine thenP_n ?_
    refine SP_seq ?_
    refine SP_seq ?_
    refine SP_region ?_
    refine SPL_y (y_fa fld_42_0 rfl) rfl ?_
    refine SPL_y (y_load Tryz.isAgg3 rfl (by repeat (first | exact Cell.head rfl | exact Cell.amid hpre rfl | apply Cell.tail))) rfl ?_
    refine SPL_nil ?_
    refine thenP_n ?_
    refine SP_block ?_
    refine SP_seq ?_
    refine SP_region ?_
    refine SPL_if (y_eql rfl rfl) rfl ?_ ?_
    · intro h7_0
      refine SPL_y (y_assign rfl) rfl ?_
      refine SPL_nil ?_
      refine thenP_n ?_
      refine SP_cond_t rfl ?_
      refine SP_draw 999 [(0, 0), (1, 0), (2, 0), (4, 0), (3, 1), (5, 1), (6, 1), (7, 0), (8, 0), (9, 0), (10, 0), (11, 0)] mixed (by kernel_rfl) (fun _ _ _ _ _ h => h) (Part.refl _) ?_
      refine SPO_p rfl (y_move rfl) rfl ?_
      refine SPO_p rfl (y_nil rfl) rfl ?_
      refine SPO_p rfl (y_fa fld_245_2 rfl) rfl ?_
      refine SPO_p rfl (y_fa fld_42_1 rfl) rfl ?_
      refine SPO_h rfl (y_load Tryz.isAgg242 rfl (by repeat (first | exact Cell.head rfl | exact Cell.amid hpre rfl | apply Cell.tail))) rfl ?_
      refine SPO_h rfl (y_load Tryz.isAgg40 rfl (by repeat (first | exact Cell.head rfl | exact Cell.amid hpre rfl | apply Cell.tail))) rfl ?_
      refine SPO_h rfl (y_lookupG hn Tryz.underlying242 kU Tryz.zeroValue21 rfl rfl (fun p hp => by simp only [List.flatten_cons, List.mem_append]; simp [hp])) rfl ?_
      generalize hq : mfind t.nums kn = q
      obtain ⟨ok, hok⟩ : ∃ ok, q.isSome = ok := ⟨_, rfl⟩
      rw [hok]
      refine SPO_p rfl (y_move rfl) rfl ?_
      refine SPO_p rfl (y_ext rfl rfl) rfl ?_
      refine SPO_p rfl (y_ext rfl rfl) rfl ?_
      rcases ok with _ | _
      · refine SPO_p rfl (y_assign rfl) rfl ?_
        refine SPO_p rfl (y_assign rfl) rfl ?_
        refine SPO_nil ?_
        refine inBlockP_n ?_
        refine thenP_n ?_
        refine SP_seq ?_
        refine SP_seq ?_
        refine SP_region ?_
        refine SPL_y (y_move rfl) rfl ?_
        refine SPL_y (y_not_f rfl) rfl ?_
        refine SPL_nil ?_
        refine thenP_n ?_
        refine SP_cond_t rfl ?_
        refine SP_seq ?_
        refine SP_region ?_
        refine SPL_y (y_assign rfl) rfl ?_
        refine SPL_nil ?_
        refine thenP_n ?_
        refine SP_ret ?_
        refine thenP_ret (bodyP_ret (H' := [blk b 245 (pre ++ [.slice oa t.order.length oc, .slice aa t.arr.length ac, .map (some nb), .map (some sb), .map (some rb), I (t.dead)] ++ post), so, sa, sn, ss, sr]) (Res1 rfl rfl) (by repeat (first | exact Part.nil _ | (apply Part.cons; (first | exact P0 | exact P1 | exact P2 | exact P3 | exact P4 | exact P5 | exact P6 | exact P7 | exact P8 | exact P9 | exact P10 | exact P11 | exact P12 | exact P13 | exact P14 | exact P15 | exact P16 | exact P17 | exact P18 | exact P19 | exact P20 | exact P21 | exact P22 | exact P23)) | (apply Part.flat; simp only [List.cons_append, List.nil_append]) | (apply Part.nilc))) ?_)
        refine ⟨?_, rfl⟩
        unfold Tb.find findO
        rw [if_neg (by omega), if_pos h7_0, hq]
        all_goals first | rfl | ((have e0 : q = none := (by simpa using hok)); (subst e0); rfl)
      · refine SPO_p rfl (y_assign rfl) rfl ?_
        refine SPO_p rfl (y_assign rfl) rfl ?_
        refine SPO_nil ?_
        refine inBlockP_n ?_
        refine thenP_n ?_
        refine SP_seq ?_
        refine SP_seq ?_
        refine SP_region ?_
        refine SPL_y (y_move rfl) rfl ?_
        refine SPL_y (y_not_t rfl) rfl ?_
        refine SPL_nil ?_
        refine thenP_n ?_
        refine SP_cond_f rfl ?_
        refine SP_skip ?_
        refine thenP_n ?_
        refine SP_seq ?_
        obtain ⟨p, rfl⟩ := Option.isSome_iff_exists.1 hok
        refine SP_region ?_
        refine SPL_y (y_move rfl) rfl ?_
        refine SPL_y (y_conv Tryz.underlying21 Tryz.underlying3 rfl rfl) rfl ?_
        refine SPL_y (y_assign rfl) rfl ?_
        refine SPL_nil ?_
        refine thenP_n ?_
        refine SP_ret ?_
        refine bodyP_ret (H' := [blk b 245 (pre ++ [.slice oa t.order.length oc, .slice aa t.arr.length ac, .map (some nb), .map (some sb), .map (some rb), I (t.dead)] ++ post), so, sa, sn, ss, sr]) (Res1 rfl rfl) (by repeat (first | exact Part.nil _ | (apply Part.cons; (first | exact P0 | exact P1 | exact P2 | exact P3 | exact P4 | exact P5 | exact P6 | exact P7 | exact P8 | exact P9 | exact P10 | exact P11 | exact P12 | exact P13 | exact P14 | exact P15 | exact P16 | exact P17 | exact P18 | exact P19 | exact P20 | exact P21 | exact P22 | exact P23)) | (apply Part.flat; simp only [List.cons_append, List.nil_append]) | (apply Part.nilc))) ?_
        refine ⟨?_, rfl⟩
        unfold Tb.find findO
        rw [if_neg (by omega), if_pos h7_0, hq]
        all_goals first | rfl | ((have e0 : q = none := (by simpa using hok)); (subst e0); rfl)
    intro h7_0
    refine SPL_y (y_assign rfl) rfl ?_
    refine SPL_nil ?_
    refine thenP_n ?_
    refine SP_cond_f rfl ?_
    refine SP_seq ?_
    refine SP_region ?_
    refine SPL_if (y_eql rfl rfl) rfl ?_ ?_
    · intro h9_0
      refine SPL_y (y_assign rfl) rfl ?_
      refine SPL_nil ?_
      refine thenP_n ?_
      refine SP_cond_t rfl ?_
      refine SP_draw 999 [(0, 0), (1, 0), (2, 0), (4, 0), (3, 1), (5, 1), (6, 1), (7, 0), (8, 0), (9, 0), (10, 0), (11, 0)] mixed (by kernel_rfl) (fun _ _ _ _ _ h => h) (Part.refl _) ?_
      refine SPO_p rfl (y_move rfl) rfl ?_
      refine SPO_p rfl (y_nil rfl) rfl ?_
      refine SPO_p rfl (y_fa fld_245_3 rfl) rfl ?_
      refine SPO_p rfl (y_fa fld_42_2 rfl) rfl ?_
      refine SPO_h rfl (y_load Tryz.isAgg243 rfl (by repeat (first | exact Cell.head rfl | exact Cell.amid hpre rfl | apply Cell.tail))) rfl ?_
      refine SPO_h rfl (y_load Tryz.isAgg9 rfl (by repeat (first | exact Cell.head rfl | exact Cell.amid hpre rfl | apply Cell.tail))) rfl ?_
      refine SPO_h rfl (y_lookupG hs Tryz.underlying243 kS Tryz.zeroValue21 rfl rfl (fun p hp => by simp only [List.flatten_cons, List.mem_append]; simp [hp])) rfl ?_
      generalize hq : mfind t.strs ks = q
      obtain ⟨ok, hok⟩ : ∃ ok, q.isSome = ok := ⟨_, rfl⟩
      rw [hok]
      refine SPO_p rfl (y_move rfl) rfl ?_
      refine SPO_p rfl (y_ext rfl rfl) rfl ?_
      refine SPO_p rfl (y_ext rfl rfl) rfl ?_
      rcases ok with _ | _
      · refine SPO_p rfl (y_assign rfl) rfl ?_
        refine SPO_p rfl (y_assign rfl) rfl ?_
        refine SPO_nil ?_
        refine inBlockP_n ?_
        refine thenP_n ?_
        refine SP_seq ?_
        refine SP_seq ?_
        refine SP_region ?_
        refine SPL_y (y_move rfl) rfl ?_
        refine SPL_y (y_not_f rfl) rfl ?_
        refine SPL_nil ?_
        refine thenP_n ?_
        refine SP_cond_t rfl ?_
        refine SP_seq ?_
        refine SP_region ?_
        refine SPL_y (y_assign rfl) rfl ?_
        refine SPL_nil ?_
        refine thenP_n ?_
        refine SP_ret ?_
        refine thenP_ret (bodyP_ret (H' := [blk b 245 (pre ++ [.slice oa t.order.length oc, .slice aa t.arr.length ac, .map (some nb), .map (some sb), .map (some rb), I (t.dead)] ++ post), so, sa, sn, ss, sr]) (Res1 rfl rfl) (by repeat (first | exact Part.nil _ | (apply Part.cons; (first | exact P0 | exact P1 | exact P2 | exact P3 | exact P4 | exact P5 | exact P6 | exact P7 | exact P8 | exact P9 | exact P10 | exact P11 | exact P12 | exact P13 | exact P14 | exact P15 | exact P16 | exact P17 | exact P18 | exact P19 | exact P20 | exact P21 | exact P22 | exact P23)) | (apply Part.flat; simp only [List.cons_append, List.nil_append]) | (apply Part.nilc))) ?_)
        refine ⟨?_, rfl⟩
        unfold Tb.find findO
        rw [if_neg (by omega), if_neg h7_0, if_pos h9_0, hq]
        all_goals first | rfl | ((have e0 : q = none := (by simpa using hok)); (subst e0); rfl)
      · refine SPO_p rfl (y_assign rfl) rfl ?_
        refine SPO_p rfl (y_assign rfl) rfl ?_
        refine SPO_nil ?_
        refine inBlockP_n ?_
        refine thenP_n ?_
        refine SP_seq ?_
        refine SP_seq ?_
        refine SP_region ?_
        refine SPL_y (y_move rfl) rfl ?_
        refine SPL_y (y_not_t rfl) rfl ?_
        refine SPL_nil ?_
        refine thenP_n ?_
        refine SP_cond_f rfl ?_
        refine SP_skip ?_
        refine thenP_n ?_
        refine SP_seq ?_
        obtain ⟨p, rfl⟩ := Option.isSome_iff_exists.1 hok
        refine SP_region ?_
        refine SPL_y (y_move rfl) rfl ?_
        refine SPL_y (y_conv Tryz.underlying21 Tryz.underlying3 rfl rfl) rfl ?_
        refine SPL_y (y_assign rfl) rfl ?_
        refine SPL_nil ?_
        refine thenP_n ?_
        refine SP_ret ?_
        refine bodyP_ret (H' := [blk b 245 (pre ++ [.slice oa t.order.length oc, .slice aa t.arr.length ac, .map (some nb), .map (some sb), .map (some rb), I (t.dead)] ++ post), so, sa, sn, ss, sr]) (Res1 rfl rfl) (by repeat (first | exact Part.nil _ | (apply Part.cons; (first | exact P0 | exact P1 | exact P2 | exact P3 | exact P4 | exact P5 | exact P6 | exact P7 | exact P8 | exact P9 | exact P10 | exact P11 | exact P12 | exact P13 | exact P14 | exact P15 | exact P16 | exact P17 | exact P18 | exact P19 | exact P20 | exact P21 | exact P22 | exact P23)) | (apply Part.flat; simp only [List.cons_append, List.nil_append]) | (apply Part.nilc))) ?_
        refine ⟨?_, rfl⟩
        unfold Tb.find findO
        rw [if_neg (by omega), if_neg h7_0, if_pos h9_0, hq]
        all_goals first | rfl | ((have e0 : q = none := (by simpa using hok)); (subst e0); rfl)
    intro h9_0
    refine SPL_y (y_assign rfl) rfl ?_
    refine SPL_nil ?_
    refine thenP_n ?_
    refine SP_cond_f rfl ?_
    refine SP_draw 999 [(0, 0), (1, 0), (2, 0), (3, 1), (4, 1), (5, 2), (6, 1), (7, 0), (8, 0), (9, 0), (10, 0), (11, 0)] mixed (by kernel_rfl) (fun _ _ _ _ _ h => h) (Part.refl _) ?_
    refine SPO_p rfl (y_move rfl) rfl ?_
    refine SPO_p rfl (y_nil rfl) rfl ?_
    refine SPO_p rfl (y_fa fld_245_4 rfl) rfl ?_
    refine SPO_h rfl (y_load Tryz.isAgg242 rfl (by repeat (first | exact Cell.head rfl | exact Cell.amid hpre rfl | apply Cell.tail))) rfl ?_
    refine SPO_h rfl (y_loads Tryz.isAgg42 Tryz.sizeOf42 rfl rfl (by repeat (first | exact Cells.all _ | exact Cells.head rfl | exact Cells.amid hpre rfl (by decide) | apply Cells.tail))) rfl ?_
    refine SPO_a rfl rfl (SP1_call (tab_pack ⟨kt, kn, ks⟩) Tryz.call210 rfl rfl (by repeat (first | exact Part.nil _ | (apply Part.cons; (first | exact P0 | exact P1 | exact P2 | exact P3 | exact P4 | exact P5 | exact P6 | exact P7 | exact P8 | exact P9 | exact P10 | exact P11 | exact P12 | exact P13 | exact P14 | exact P15 | exact P16 | exact P17 | exact P18 | exact P19 | exact P20 | exact P21 | exact P22 | exact P23)) | (apply Part.flat; simp only [List.cons_append, List.nil_append]) | (apply Part.nilc))) ?_)
    rintro v post H' ⟨rfl, rfl⟩ hH
    try simp only [List.cons_append, List.nil_append] at hH
    subst hH
    refine ⟨⟨_, (by repeat (first | exact Part.nil _ | (apply Part.cons; (first | exact P0 | exact P1 | exact P2 | exact P3 | exact P4 | exact P5 | exact P6 | exact P7 | exact P8 | exact P9 | exact P10 | exact P11 | exact P12 | exact P13 | exact P14 | exact P15 | exact P16 | exact P17 | exact P18 | exact P19 | exact P20 | exact P21 | exact P22 | exact P23)) | (apply Part.flat; simp only [List.cons_append, List.nil_append]) | (apply Part.nilc)))⟩, ?_⟩
    refine SPO_h rfl (y_lookupG hr Tryz.underlying242 kU Tryz.zeroValue21 rfl rfl (fun p hp => by simp only [List.flatten_cons, List.mem_append]; simp [hp])) rfl ?_
    generalize hq : mfind t.refs (packM ⟨kt, kn, ks⟩) = q
    obtain ⟨ok, hok⟩ : ∃ ok, q.isSome = ok := ⟨_, rfl⟩
    rw [hok]
    refine SPO_p rfl (y_move rfl) rfl ?_
    refine SPO_p rfl (y_ext rfl rfl) rfl ?_
    refine SPO_p rfl (y_ext rfl rfl) rfl ?_
    rcases ok with _ | _
    · refine SPO_p rfl (y_assign rfl) rfl ?_
      refine SPO_p rfl (y_assign rfl) rfl ?_
      refine SPO_nil ?_
      refine inBlockP_n ?_
      refine thenP_n ?_
      refine SP_seq ?_
      refine SP_seq ?_
      refine SP_region ?_
      refine SPL_y (y_move rfl) rfl ?_
      refine SPL_y (y_not_f rfl) rfl ?_
      refine SPL_nil ?_
      refine thenP_n ?_
      refine SP_cond_t rfl ?_
      refine SP_seq ?_
      refine SP_region ?_
      refine SPL_y (y_assign rfl) rfl ?_
      refine SPL_nil ?_
      refine thenP_n ?_
      refine SP_ret ?_
      refine thenP_ret (bodyP_ret (H' := [blk b 245 (pre ++ [.slice oa t.order.length oc, .slice aa t.arr.length ac, .map (some nb), .map (some sb), .map (some rb), I (t.dead)] ++ post), so, sa, sn, ss, sr]) (Res1 rfl rfl) (by repeat (first | exact Part.nil _ | (apply Part.cons; (first | exact P0 | exact P1 | exact P2 | exact P3 | exact P4 | exact P5 | exact P6 | exact P7 | exact P8 | exact P9 | exact P10 | exact P11 | exact P12 | exact P13 | exact P14 | exact P15 | exact P16 | exact P17 | exact P18 | exact P19 | exact P20 | exact P21 | exact P22 | exact P23)) | (apply Part.flat; simp only [List.cons_append, List.nil_append]) | (apply Part.nilc))) ?_)
      refine ⟨?_, rfl⟩
      unfold Tb.find findO
      rw [if_neg (by omega), if_neg h7_0, if_neg h9_0, hq]
      all_goals first | rfl | ((have e0 : q = none := (by simpa using hok)); (subst e0); rfl)
    · refine SPO_p rfl (y_assign rfl) rfl ?_
      refine SPO_p rfl (y_assign rfl) rfl ?_
      refine SPO_nil ?_
      refine inBlockP_n ?_
      refine thenP_n ?_
      refine SP_seq ?_
      refine SP_seq ?_
      refine SP_region ?_
      refine SPL_y (y_move rfl) rfl ?_
      refine SPL_y (y_not_t rfl) rfl ?_
      refine SPL_nil ?_
      refine thenP_n ?_
      refine SP_cond_f rfl ?_
      refine SP_skip ?_
      refine thenP_n ?_
      refine SP_seq ?_
      obtain ⟨p, rfl⟩ := Option.isSome_iff_exists.1 hok
      refine SP_region ?_
      refine SPL_y (y_move rfl) rfl ?_
      refine SPL_y (y_conv Tryz.underlying21 Tryz.underlying3 rfl rfl) rfl ?_
      refine SPL_y (y_assign rfl) rfl ?_
      refine SPL_nil ?_
      refine thenP_n ?_
      refine SP_ret ?_
      refine bodyP_ret (H' := [blk b 245 (pre ++ [.slice oa t.order.length oc, .slice aa t.arr.length ac, .map (some nb), .map (some sb), .map (some rb), I (t.dead)] ++ post), so, sa, sn, ss, sr]) (Res1 rfl rfl) (by repeat (first | exact Part.nil _ | (apply Part.cons; (first | exact P0 | exact P1 | exact P2 | exact P3 | exact P4 | exact P5 | exact P6 | exact P7 | exact P8 | exact P9 | exact P10 | exact P11 | exact P12 | exact P13 | exact P14 | exact P15 | exact P16 | exact P17 | exact P18 | exact P19 | exact P20 | exact P21 | exact P22 | exact P23)) | (apply Part.flat; simp only [List.cons_append, List.nil_append]) | (apply Part.nilc))) ?_
      refine ⟨?_, rfl⟩
      unfold Tb.find findO
      rw [if_neg (by omega), if_neg h7_0, if_neg h9_0, hq]
      all_goals first | rfl | ((have e0 : q = none := (by simpa using hok)); (subst e0); rfl)
  intro h1_1
  refine SPL_y (y_move rfl) rfl ?_
  refine SPL_gy rfl rfl ?_
  refine SPL_y (y_move rfl) rfl ?_
  refine SPL_gy rfl rfl ?_
  refine SPL_y (y_move rfl) rfl ?_
  refine SPL_gy rfl rfl ?_
  refine SPL_y (y_nil rfl) rfl ?_
  refine SPL_gy rfl rfl ?_
  refine SPL_y (y_fa fld_245_1 rfl) rfl ?_
  refine SPL_gy rfl rfl ?_
  refine SPL_y (y_load Tryz.isAgg241 rfl (by repeat (first | exact Cell.head rfl | exact Cell.amid hpre rfl | apply Cell.tail))) rfl ?_
  refine SPL_gy rfl rfl ?_
  refine SPL_y (y_len_l Tryz.underlying241 rfl) rfl ?_
  refine SPL_gy rfl rfl ?_
  refine SPL_if (y_leq rfl rfl) rfl ?_ ?_
  · intro h1_9
    refine SPL_y (y_pick_t rfl rfl) rfl ?_
    refine SPL_nil ?_
    refine thenP_n ?_
    refine SP_cond_t rfl ?_
    refine SP_seq ?_
    obtain ⟨ab, asp, rfl, hac, hasp, rfl⟩ := ha.row (by omega)
    refine SP_region ?_
    refine SPL_y (y_move rfl) rfl ?_
    refine SPL_y (y_nil rfl) rfl ?_
    refine SPL_y (y_fa fld_245_1 rfl) rfl ?_
    refine SPL_y (y_load Tryz.isAgg241 rfl (by repeat (first | exact Cell.head rfl | exact Cell.amid hpre rfl | apply Cell.tail))) rfl ?_
    refine SPL_y (y_move rfl) rfl ?_
    refine SPL_y (y_sub rfl rfl (by omega)) rfl ?_
    refine SPL_y (y_ia Tryz.underlying241 Tryz.sizeOf21 rfl rfl (by omega)) rfl ?_
    refine SPL_y (y_load Tryz.isAgg21 rfl (by repeat (first | exact arr_cell (by omega) (by omega) | apply Cell.tail))) rfl ?_
    refine SPL_y (y_conv Tryz.underlying21 Tryz.underlying3 rfl rfl) rfl ?_
    refine SPL_y (y_assign rfl) rfl ?_
    refine SPL_nil ?_
    refine thenP_n ?_
    refine SP_ret ?_
    refine thenP_ret (bodyP_ret (H' := [blk b 245 (pre ++ [.slice oa t.order.length oc, .slice (some ⟨ab, 0, none⟩) t.arr.length ac, .map (some nb), .map (some sb), .map (some rb), I (t.dead)] ++ post), so, blk ab 21 (t.arr.map i32V ++ asp), sn, ss, sr]) (Res1 rfl rfl) (by repeat (first | exact Part.nil _ | (apply Part.cons; (first | exact P0 | exact P1 | exact P2 | exact P3 | exact P4 | exact P5 | exact P6 | exact P7 | exact P8 | exact P9 | exact P10 | exact P11 | exact P12 | exact P13 | exact P14 | exact P15 | exact P16 | exact P17 | exact P18 | exact P19 | exact P20 | exact P21 | exact P22 | exact P23)) | (apply Part.flat; simp only [List.cons_append, List.nil_append]) | (apply Part.nilc))) ?_)
    refine ⟨?_, rfl⟩
    unfold Tb.find
    rw [if_pos (by omega)]
    all_goals rfl
  intro h1_9
  refine SPL_y (y_pick_t rfl rfl) rfl ?_
  refine SPL_nil ?_
  refine thenP_n ?_
  refine SP_cond_f rfl ?_
  refine SP_skip ?_
  refine thenP_n ?_
  refine SP_seq ?_
  refine SP_region ?_
  refine SPL_y (y_assign rfl) rfl ?_
  refine SPL_nil ?_
  refine thenP_n ?_
  refine SP_seq ?_
  refine SP_region ?_
  refine SPL_y (y_assign rfl) rfl ?_
  refine SPL_nil ?_
  refine thenP_n ?_
  refine SP_seq ?_
  refine SP_seq ?_
  refine SP_region ?_
  refine SPL_y (y_fa fld_42_0 rfl) rfl ?_
  refine SPL_y (y_load Tryz.isAgg3 rfl (by repeat (first | exact Cell.head rfl | exact Cell.amid hpre rfl | apply Cell.tail))) rfl ?_
  refine SPL_nil ?_
  refine thenP_n ?_
  refine SP_block ?_
  refine SP_seq ?_
  refine SP_region ?_
  refine SPL_if (y_eql rfl rfl) rfl ?_ ?_
  · intro h7_0
    refine SPL_y (y_assign rfl) rfl ?_
    refine SPL_nil ?_
    refine thenP_n ?_
    refine SP_cond_t rfl ?_
    refine SP_draw 999 [(0, 0), (1, 0), (2, 0), (4, 0), (3, 1), (5, 1), (6, 1), (7, 0), (8, 0), (9, 0), (10, 0), (11, 0)] mixed (by kernel_rfl) (fun _ _ _ _ _ h => h) (Part.refl _) ?_
    refine SPO_p rfl (y_move rfl) rfl ?_
    refine SPO_p rfl (y_nil rfl) rfl ?_
    refine SPO_p rfl (y_fa fld_245_2 rfl) rfl ?_
    refine SPO_p rfl (y_fa fld_42_1 rfl) rfl ?_
    refine SPO_h rfl (y_load Tryz.isAgg242 rfl (by repeat (first | exact Cell.head rfl | exact Cell.amid hpre rfl | apply Cell.tail))) rfl ?_
    refine SPO_h rfl (y_load Tryz.isAgg40 rfl (by repeat (first | exact Cell.head rfl | exact Cell.amid hpre rfl | apply Cell.tail))) rfl ?_
    refine SPO_h rfl (y_lookupG hn Tryz.underlying242 kU Tryz.zeroValue21 rfl rfl (fun p hp => by simp only [List.flatten_cons, List.mem_append]; simp [hp])) rfl ?_
    generalize hq : mfind t.nums kn = q
    obtain ⟨ok, hok⟩ : ∃ ok, q.isSome = ok := ⟨_, rfl⟩
    rw [hok]
    refine SPO_p rfl (y_move rfl) rfl ?_
    refine SPO_p rfl (y_ext rfl rfl) rfl ?_
    refine SPO_p rfl (y_ext rfl rfl) rfl ?_
    rcases ok with _ | _
    · refine SPO_p rfl (y_assign rfl) rfl ?_
      refine SPO_p rfl (y_assign rfl) rfl ?_
      refine SPO_nil ?_
      refine inBlockP_n ?_
      refine thenP_n ?_
      refine SP_seq ?_
      refine SP_seq ?_
      refine SP_region ?_
      refine SPL_y (y_move rfl) rfl ?_
      refine SPL_y (y_not_f rfl) rfl ?_
      refine SPL_nil ?_
      refine thenP_n ?_
      refine SP_cond_t rfl ?_
      refine SP_seq ?_
      refine SP_region ?_
      refine SPL_y (y_assign rfl) rfl ?_
      refine SPL_nil ?_
      refine thenP_n ?_
      refine SP_ret ?_
      refine thenP_ret (bodyP_ret (H' := [blk b 245 (pre ++ [.slice oa t.order.length oc, .slice aa t.arr.length ac, .map (some nb), .map (some sb), .map (some rb), I (t.dead)] ++ post), so, sa, sn, ss, sr]) (Res1 rfl rfl) (by repeat (first | exact Part.nil _ | (apply Part.cons; (first | exact P0 | exact P1 | exact P2 | exact P3 | exact P4 | exact P5 | exact P6 | exact P7 | exact P8 | exact P9 | exact P10 | exact P11 | exact P12 | exact P13 | exact P14 | exact P15 | exact P16 | exact P17 | exact P18 | exact P19 | exact P20 | exact P21 | exact P22 | exact P23)) | (apply Part.flat; simp only [List.cons_append, List.nil_append]) | (apply Part.nilc))) ?_)
      refine ⟨?_, rfl⟩
      unfold Tb.find findO
      rw [if_neg (by omega), if_pos h7_0, hq]
      all_goals first | rfl | ((have e0 : q = none := (by simpa using hok)); (subst e0); rfl)
    · refine SPO_p rfl (y_assign rfl) rfl ?_
      refine SPO_p rfl (y_assign rfl) rfl ?_
      refine SPO_nil ?_
      refine inBlockP_n ?_
      refine thenP_n ?_
      refine SP_seq ?_
      refine SP_seq ?_
      refine SP_region ?_
      refine SPL_y (y_move rfl) rfl ?_
      refine SPL_y (y_not_t rfl) rfl ?_
      refine SPL_nil ?_
      refine thenP_n ?_
      refine SP_cond_f rfl ?_
      refine SP_skip ?_
      refine thenP_n ?_
      refine SP_seq ?_
      obtain ⟨p, rfl⟩ := Option.isSome_iff_exists.1 hok
      refine SP_region ?_
      refine SPL_y (y_move rfl) rfl ?_
      refine SPL_y (y_conv Tryz.underlying21 Tryz.underlying3 rfl rfl) rfl ?_
      refine SPL_y (y_assign rfl) rfl ?_
      refine SPL_nil ?_
      refine thenP_n ?_
      refine SP_ret ?_
      refine bodyP_ret (H' := [blk b 245 (pre ++ [.slice oa t.order.length oc, .slice aa t.arr.length ac, .map (some nb), .map (some sb), .map (some rb), I (t.dead)] ++ post), so, sa, sn, ss, sr]) (Res1 rfl rfl) (by repeat (first | exact Part.nil _ | (apply Part.cons; (first | exact P0 | exact P1 | exact P2 | exact P3 | exact P4 | exact P5 | exact P6 | exact P7 | exact P8 | exact P9 | exact P10 | exact P11 | exact P12 | exact P13 | exact P14 | exact P15 | exact P16 | exact P17 | exact P18 | exact P19 | exact P20 | exact P21 | exact P22 | exact P23)) | (apply Part.flat; simp only [List.cons_append, List.nil_append]) | (apply Part.nilc))) ?_
      refine ⟨?_, rfl⟩
      unfold Tb.find findO
      rw [if_neg (by omega), if_pos h7_0, hq]
      all_goals first | rfl | ((have e0 : q = none := (by simpa using hok)); (subst e0); rfl)
  intro h7_0
  refine SPL_y (y_assign rfl) rfl ?_
  refine SPL_nil ?_
  refine thenP_n ?_
  refine SP_cond_f rfl ?_
  refine SP_seq ?_
  refine SP_region ?_
  refine SPL_if (y_eql rfl rfl) rfl ?_ ?_
  · intro h9_0
    refine SPL_y (y_assign rfl) rfl ?_
    refine SPL_nil ?_
    refine thenP_n ?_
    refine SP_cond_t rfl ?_
    refine SP_draw 999 [(0, 0), (1, 0), (2, 0), (4, 0), (3, 1), (5, 1), (6, 1), (7, 0), (8, 0), (9, 0), (10, 0), (11, 0)] mixed (by kernel_rfl) (fun _ _ _ _ _ h => h) (Part.refl _) ?_
    refine SPO_p rfl (y_move rfl) rfl ?_
    refine SPO_p rfl (y_nil rfl) rfl ?_
    refine SPO_p rfl (y_fa fld_245_3 rfl) rfl ?_
    refine SPO_p rfl (y_fa fld_42_2 rfl) rfl ?_
    refine SPO_h rfl (y_load Tryz.isAgg243 rfl (by repeat (first | exact Cell.head rfl | exact Cell.amid hpre rfl | apply Cell.tail))) rfl ?_
    refine SPO_h rfl (y_load Tryz.isAgg9 rfl (by repeat (first | exact Cell.head rfl | exact Cell.amid hpre rfl | apply Cell.tail))) rfl ?_
    refine SPO_h rfl (y_lookupG hs Tryz.underlying243 kS Tryz.zeroValue21 rfl rfl (fun p hp => by simp only [List.flatten_cons, List.mem_append]; simp [hp])) rfl ?_
    generalize hq : mfind t.strs ks = q
    obtain ⟨ok, hok⟩ : ∃ ok, q.isSome = ok := ⟨_, rfl⟩
    rw [hok]
    refine SPO_p rfl (y_move rfl) rfl ?_
    refine SPO_p rfl (y_ext rfl rfl) rfl ?_
    refine SPO_p rfl (y_ext rfl rfl) rfl ?_
    rcases ok with _ | _
    · refine SPO_p rfl (y_assign rfl) rfl ?_
      refine SPO_p rfl (y_assign rfl) rfl ?_
      refine SPO_nil ?_
      refine inBlockP_n ?_
      refine thenP_n ?_
      refine SP_seq ?_
      refine SP_seq ?_
      refine SP_region ?_
      refine SPL_y (y_move rfl) rfl ?_
      refine SPL_y (y_not_f rfl) rfl ?_
      refine SPL_nil ?_
      refine thenP_n ?_
      refine SP_cond_t rfl ?_
      refine SP_seq ?_
      refine SP_region ?_
      refine SPL_y (y_assign rfl) rfl ?_
      refine SPL_nil ?_
      refine thenP_n ?_
      refine SP_ret ?_
      refine thenP_ret (bodyP_ret (H' := [blk b 245 (pre ++ [.slice oa t.order.length oc, .slice aa t.arr.length ac, .map (some nb), .map (some sb), .map (some rb), I (t.dead)] ++ post), so, sa, sn, ss, sr]) (Res1 rfl rfl) (by repeat (first | exact Part.nil _ | (apply Part.cons; (first | exact P0 | exact P1 | exact P2 | exact P3 | exact P4 | exact P5 | exact P6 | exact P7 | exact P8 | exact P9 | exact P10 | exact P11 | exact P12 | exact P13 | exact P14 | exact P15 | exact P16 | exact P17 | exact P18 | exact P19 | exact P20 | exact P21 | exact P22 | exact P23)) | (apply Part.flat; simp only [List.cons_append, List.nil_append]) | (apply Part.nilc))) ?_)
      refine ⟨?_, rfl⟩
      unfold Tb.find findO
      rw [if_neg (by omega), if_neg h7_0, if_pos h9_0, hq]
      all_goals first | rfl | ((have e0 : q = none := (by simpa using hok)); (subst e0); rfl)
    · refine SPO_p rfl (y_assign rfl) rfl ?_
      refine SPO_p rfl (y_assign rfl) rfl ?_
      refine SPO_nil ?_
      refine inBlockP_n ?_
      refine thenP_n ?_
      refine SP_seq ?_
      refine SP_seq ?_
      refine SP_region ?_
      refine SPL_y (y_move rfl) rfl ?_
      refine SPL_y (y_not_t rfl) rfl ?_
      refine SPL_nil ?_
      refine thenP_n ?_
      refine SP_cond_f rfl ?_
      refine SP_skip ?_
      refine thenP_n ?_
      refine SP_seq ?_
      obtain ⟨p, rfl⟩ := Option.isSome_iff_exists.1 hok
      refine SP_region ?_
      refine SPL_y (y_move rfl) rfl ?_
      refine SPL_y (y_conv Tryz.underlying21 Tryz.underlying3 rfl rfl) rfl ?_
      refine SPL_y (y_assign rfl) rfl ?_
      refine SPL_nil ?_
      refine thenP_n ?_
      refine SP_ret ?_
      refine bodyP_ret (H' := [blk b 245 (pre ++ [.slice oa t.order.length oc, .slice aa t.arr.length ac, .map (some nb), .map (some sb), .map (some rb), I (t.dead)] ++ post), so, sa, sn, ss, sr]) (Res1 rfl rfl) (by repeat (first | exact Part.nil _ | (apply Part.cons; (first | exact P0 | exact P1 | exact P2 | exact P3 | exact P4 | exact P5 | exact P6 | exact P7 | exact P8 | exact P9 | exact P10 | exact P11 | exact P12 | exact P13 | exact P14 | exact P15 | exact P16 | exact P17 | exact P18 | exact P19 | exact P20 | exact P21 | exact P22 | exact P23)) | (apply Part.flat; simp only [List.cons_append, List.nil_append]) | (apply Part.nilc))) ?_
      refine ⟨?_, rfl⟩
      unfold Tb.find findO
      rw [if_neg (by omega), if_neg h7_0, if_pos h9_0, hq]
      all_goals first | rfl | ((have e0 : q = none := (by simpa using hok)); (subst e0); rfl)
  intro h9_0
  refine SPL_y (y_assign rfl) rfl ?_
  refine SPL_nil ?_
  refine thenP_n ?_
  refine SP_cond_f rfl ?_
  refine SP_draw 999 [(0, 0), (1, 0), (2, 0), (3, 1), (4, 1), (5, 2), (6, 1), (7, 0), (8, 0), (9, 0), (10, 0), (11, 0)] mixed (by kernel_rfl) (fun _ _ _ _ _ h => h) (Part.refl _) ?_
  refine SPO_p rfl (y_move rfl) rfl ?_
  refine SPO_p rfl (y_nil rfl) rfl ?_
  refine SPO_p rfl (y_fa fld_245_4 rfl) rfl ?_
  refine SPO_h rfl (y_load Tryz.isAgg242 rfl (by repeat (first | exact Cell.head rfl | exact Cell.amid hpre rfl | apply Cell.tail))) rfl ?_
  refine SPO_h rfl (y_loads Tryz.isAgg42 Tryz.sizeOf42 rfl rfl (by repeat (first | exact Cells.all _ | exact Cells.head rfl | exact Cells.amid hpre rfl (by decide) | apply Cells.tail))) rfl ?_
  refine SPO_a rfl rfl (SP1_call (tab_pack ⟨kt, kn, ks⟩) Tryz.call210 rfl rfl (by repeat (first | exact Part.nil _ | (apply Part.cons; (first | exact P0 | exact P1 | exact P2 | exact P3 | exact P4 | exact P5 | exact P6 | exact P7 | exact P8 | exact P9 | exact P10 | exact P11 | exact P12 | exact P13 | exact P14 | exact P15 | exact P16 | exact P17 | exact P18 | exact P19 | exact P20 | exact P21 | exact P22 | exact P23)) | (apply Part.flat; simp only [List.cons_append, List.nil_append]) | (apply Part.nilc))) ?_)
  rintro v post H' ⟨rfl, rfl⟩ hH
  try simp only [List.cons_append, List.nil_append] at hH
  subst hH
  refine ⟨⟨_, (by repeat (first | exact Part.nil _ | (apply Part.cons; (first | exact P0 | exact P1 | exact P2 | exact P3 | exact P4 | exact P5 | exact P6 | exact P7 | exact P8 | exact P9 | exact P10 | exact P11 | exact P12 | exact P13 | exact P14 | exact P15 | exact P16 | exact P17 | exact P18 | exact P19 | exact P20 | exact P21 | exact P22 | exact P23)) | (apply Part.flat; simp only [List.cons_append, List.nil_append]) | (apply Part.nilc)))⟩, ?_⟩
  refine SPO_h rfl (y_lookupG hr Tryz.underlying242 kU Tryz.zeroValue21 rfl rfl (fun p hp => by simp only [List.flatten_cons, List.mem_append]; simp [hp])) rfl ?_
  generalize hq : mfind t.refs (packM ⟨kt, kn, ks⟩) = q
  obtain ⟨ok, hok⟩ : ∃ ok, q.isSome = ok := ⟨_, rfl⟩
  rw [hok]
  refine SPO_p rfl (y_move rfl) rfl ?_
  refine SPO_p rfl (y_ext rfl rfl) rfl ?_
  refine SPO_p rfl (y_ext rfl rfl) rfl ?_
  rcases ok with _ | _
  · refine SPO_p rfl (y_assign rfl) rfl ?_
    refine SPO_p rfl (y_assign rfl) rfl ?_
    refine SPO_nil ?_
    refine inBlockP_n ?_
    refine thenP_n ?_
    refine SP_seq ?_
    refine SP_seq ?_
    refine SP_region ?_
    refine SPL_y (y_move rfl) rfl ?_
    refine SPL_y (y_not_f rfl) rfl ?_
    refine SPL_nil ?_
    refine thenP_n ?_
    refine SP_cond_t rfl ?_
    refine SP_seq ?_
    refine SP_region ?_
    refine SPL_y (y_assign rfl) rfl ?_
    refine SPL_nil ?_
    refine thenP_n ?_
    refine SP_ret ?_
    refine thenP_ret (bodyP_ret (H' := [blk b 245 (pre ++ [.slice oa t.order.length oc, .slice aa t.arr.length ac, .map (some nb), .map (some sb), .map (some rb), I (t.dead)] ++ post), so, sa, sn, ss, sr]) (Res1 rfl rfl) (by repeat (first | exact Part.nil _ | (apply Part.cons; (first | exact P0 | exact P1 | exact P2 | exact P3 | exact P4 | exact P5 | exact P6 | exact P7 | exact P8 | exact P9 | exact P10 | exact P11 | exact P12 | exact P13 | exact P14 | exact P15 | exact P16 | exact P17 | exact P18 | exact P19 | exact P20 | exact P21 | exact P22 | exact P23)) | (apply Part.flat; simp only [List.cons_append, List.nil_append]) | (apply Part.nilc))) ?_)
    refine ⟨?_, rfl⟩
    unfold Tb.find findO
    rw [if_neg (by omega), if_neg h7_0, if_neg h9_0, hq]
    all_goals first | rfl | ((have e0 : q = none := (by simpa using hok)); (subst e0); rfl)
  · refine SPO_p rfl (y_assign rfl) rfl ?_
    refine SPO_p rfl (y_assign rfl) rfl ?_
    refine SPO_nil ?_
    refine inBlockP_n ?_
    refine thenP_n ?_
    refine SP_seq ?_
    refine SP_seq ?_
    refine SP_region ?_
    refine SPL_y (y_move rfl) rfl ?_
    refine SPL_y (y_not_t rfl) rfl ?_
    refine SPL_nil ?_
    refine thenP_n ?_
    refine SP_cond_f rfl ?_
    refine SP_skip ?_
    refine thenP_n ?_
    refine SP_seq ?_
    obtain ⟨p, rfl⟩ := Option.isSome_iff_exists.1 hok
    refine SP_region ?_
    refine SPL_y (y_move rfl) rfl ?_
    refine SPL_y (y_conv Tryz.underlying21 Tryz.underlying3 rfl rfl) rfl ?_
    refine SPL_y (y_assign rfl) rfl ?_
    refine SPL_nil ?_
    refine thenP_n ?_
    refine SP_ret ?_
    refine bodyP_ret (H' := [blk b 245 (pre ++ [.slice oa t.order.length oc, .slice aa t.arr.length ac, .map (some nb), .map (some sb), .map (some rb), I (t.dead)] ++ post), so, sa, sn, ss, sr]) (Res1 rfl rfl) (by repeat (first | exact Part.nil _ | (apply Part.cons; (first | exact P0 | exact P1 | exact P2 | exact P3 | exact P4 | exact P5 | exact P6 | exact P7 | exact P8 | exact P9 | exact P10 | exact P11 | exact P12 | exact P13 | exact P14 | exact P15 | exact P16 | exact P17 | exact P18 | exact P19 | exact P20 | exact P21 | exact P22 | exact P23)) | (apply Part.flat; simp only [List.cons_append, List.nil_append]) | (apply Part.nilc))) ?_
    refine ⟨?_, rfl⟩
    unfold Tb.find findO
    rw [if_neg (by omega), if_neg h7_0, if_neg h9_0, hq]
    all_goals first | rfl | ((have e0 : q = none := (by simpa using hok)); (subst e0); rfl)

theorem tab_turn (b o : Nat) (pre post : List Value) (hpre : pre.length = o) (t : Tb) (oa aa : Option Addr) (oc ac nb sb rb : Nat) (so sa sn ss sr : Seg) (ho : Arr 257 6 oa t.order.length oc (t.order.flatMap entV) so) (ha : Arr 21 1 aa t.arr.length ac (t.arr.map i32V) sa) (hn : isMap u64K i32V nb t.nums sn) (hs : isMap S i32V sb t.strs ss) (hr : isMap u64K i32V rb t.refs sr) (p : Nat) (hp : p < t.order.length) (hl : t.order.length ≤ 1000) (v : V) (hd : -1000000 ≤ t.dead ∧ t.dead ≤ 1000000) : Spec Tryz.prog 136 [.pointer (some ⟨b, o, none⟩), I p, .agg (valV v).toArray] [blk b 245 (pre ++ [.slice oa t.order.length oc, .slice aa t.arr.length ac, .map (some nb), .map (some sb), .map (some rb), I (t.dead)] ++ post), so, sa, sn, ss, sr] (Ret fun r H => r = .tuple #[] ∧ ∃ so', Arr 257 6 oa t.order.length oc ((t.turn p v).order.flatMap entV) so' ∧ H = [blk b 245 (pre ++ [.slice oa t.order.length oc, .slice aa t.arr.length ac, .map (some nb), .map (some sb), .map (some rb), I ((t.turn p v).dead)] ++ post), so', sa, sn, ss, sr]) := by
  obtain ⟨vt, vn, vs⟩ := v
  dsimp only [valV]
  obtain ⟨ob, osp, rfl, hoc, hosp, rfl⟩ := ho.row (by omega)
  have hgd : t.order.getD p (V.nil, V.nil) = t.order[p] := by rw [List.getD_eq_getElem?_getD, List.getElem?_eq_getElem hp]; rfl
  refine Spec_enter Tryz.func136 rfl Tryz.ntmps136 rfl ?_
  show SP _ _ _ _ _ [(0, _), (1, _), (2, _)] _
  refine SP_seq ?_
  refine SP_region ?_
  refine SPL_one rfl (SP1_box rfl rfl rfl ?_)
  intro b5
  refine SPL_nil ?_
  refine thenP_n ?_
  refine SP_seq ?_
  refine SP_region ?_
  refine SPL_y (y_move rfl) rfl ?_
  refine SPL_y (y_nil rfl) rfl ?_
  refine SPL_y (y_fa fld_245_0 rfl) rfl ?_
  refine SPL_y (y_load Tryz.isAgg240 rfl (by repeat (first | exact Cell.head rfl | exact Cell.amid hpre rfl | apply Cell.tail))) rfl ?_
  refine SPL_y (y_move rfl) rfl ?_
  refine SPL_y (y_ia Tryz.underlying240 Tryz.sizeOf257 rfl rfl (by omega)) rfl ?_
  refine SPL_y (y_fa fld_257_1 rfl) rfl ?_
  refine SPL_y (y_loads Tryz.isAgg42 Tryz.sizeOf42 rfl rfl (by repeat (first | exact flat_cellsQ (vs := valV t.order[p].2) entV_len rfl hp rfl | apply Cells.tail))) rfl ?_
  refine SPL_one rfl (SP1_call (tab_isNil t.order[p].2) Tryz.call137 rfl rfl (by repeat (first | exact Part.nil _ | (apply Part.cons; (first | exact P0 | exact P1 | exact P2 | exact P3 | exact P4 | exact P5 | exact P6 | exact P7 | exact P8 | exact P9 | exact P10 | exact P11 | exact P12 | exact P13 | exact P14 | exact P15 | exact P16 | exact P17 | exact P18 | exact P19 | exact P20 | exact P21 | exact P22 | exact P23)) | (apply Part.flat; simp only [List.cons_append, List.nil_append]) | (apply Part.nilc))) ?_)
  rintro v post H' ⟨rfl, rfl⟩ hH
  try simp only [List.cons_append, List.nil_append] at hH
  subst hH
  generalize hwas : isNilV t.order[p].2 = was
  rcases was with _ | _
  · refine SPL_y (y_assign rfl) rfl ?_
    refine SPL_nil ?_
    refine thenP_n ?_
    refine SP_seq ?_
    refine SP_region ?_
    refine SPL_y (y_loads Tryz.isAgg42 Tryz.sizeOf42 rfl rfl (by repeat (first | exact Cells.all _ | exact Cells.head rfl | exact Cells.amid hpre rfl (by decide) | apply Cells.tail))) rfl ?_
    refine SPL_one rfl (SP1_call (tab_isNil ⟨vt, vn, vs⟩) Tryz.call137 rfl rfl (by repeat (first | exact Part.nil _ | (apply Part.cons; (first | exact P0 | exact P1 | exact P2 | exact P3 | exact P4 | exact P5 | exact P6 | exact P7 | exact P8 | exact P9 | exact P10 | exact P11 | exact P12 | exact P13 | exact P14 | exact P15 | exact P16 | exact P17 | exact P18 | exact P19 | exact P20 | exact P21 | exact P22 | exact P23)) | (apply Part.flat; simp only [List.cons_append, List.nil_append]) | (apply Part.nilc))) ?_)
    rintro v post H' ⟨rfl, rfl⟩ hH
    try simp only [List.cons_append, List.nil_append] at hH
    subst hH
    generalize hnow : isNilV ⟨vt, vn, vs⟩ = now
    rcases now with _ | _
    · refine SPL_y (y_assign rfl) rfl ?_
      refine SPL_nil ?_
      refine thenP_n ?_
      refine SP_seq ?_
      refine SP_seq ?_
      refine SP_region ?_
      refine SPL_y (y_move rfl) rfl ?_
      refine SPL_y (y_move rfl) rfl ?_
      refine SPL_gn rfl rfl rfl rfl ?_
      refine SPL_gn rfl rfl rfl rfl ?_
      refine SPL_y (y_pick_f rfl rfl) rfl ?_
      refine SPL_nil ?_
      refine thenP_n ?_
      refine SP_cond_f rfl ?_
      refine SP_skip ?_
      refine thenP_n ?_
      refine SP_seq ?_
      refine SP_seq ?_
      refine SP_region ?_
      refine SPL_y (y_move rfl) rfl ?_
      refine SPL_y (y_move rfl) rfl ?_
      refine SPL_gn rfl rfl rfl rfl ?_
      refine SPL_gn rfl rfl rfl rfl ?_
      refine SPL_y (y_pick_f rfl rfl) rfl ?_
      refine SPL_nil ?_
      refine thenP_n ?_
      refine SP_cond_f rfl ?_
      refine SP_skip ?_
      refine thenP_n ?_
      refine SP_draw 8 [(0, 0), (1, 0), (2, 0), (4, 0), (3, 1), (5, 1), (6, 0), (7, 0), (8, 3)] mixed (by kernel_rfl) (fun _ _ _ _ _ h => h) (Part.refl _) ?_
      refine SPO_p rfl (y_move rfl) rfl ?_
      refine SPO_p rfl (y_nil rfl) rfl ?_
      refine SPO_p rfl (y_fa fld_245_0 rfl) rfl ?_
      refine SPO_p rfl (y_move rfl) rfl ?_
      refine SPO_h rfl (y_load Tryz.isAgg240 rfl (by repeat (first | exact Cell.head rfl | exact Cell.amid hpre rfl | apply Cell.tail))) rfl ?_
      refine SPO_h rfl (y_loads Tryz.isAgg42 Tryz.sizeOf42 rfl rfl (by repeat (first | exact Cells.all _ | exact Cells.head rfl | exact Cells.amid hpre rfl (by decide) | apply Cells.tail))) rfl ?_
      refine SPO_p rfl (y_ia Tryz.underlying240 Tryz.sizeOf257 rfl rfl (by omega)) rfl ?_
      refine SPO_p rfl (y_fa fld_257_1 rfl) rfl ?_
      refine SPO_z (k := 0) rfl rfl (SP1_storesF (l := t.order) (x := (t.order[p].1, ⟨vt, vn, vs⟩)) (vs := valV ⟨vt, vn, vs⟩) entV_len rfl hp rfl (by decide) Tryz.sizeOf42 rfl rfl rfl rfl rfl (by first | exact U0 | exact U1 | exact U2 | exact U3 | exact U4 | exact U5 | exact U6 | exact U7 | exact U8 | exact U9 | exact U10 | exact U11 | exact U12 | exact U13 | exact U14 | exact U15 | exact U16 | exact U17 | exact U18 | exact U19 | exact U20 | exact U21 | exact U22 | exact U23) ?_)
      refine SPO_nil ?_
      refine bodyP_end (H' := [blk b 245 (pre ++ [.slice (some ⟨ob, 0, none⟩) t.order.length oc, .slice aa t.arr.length ac, .map (some nb), .map (some sb), .map (some rb), I (t.dead)] ++ post), blk ob 257 ((t.order.set p (t.order[p].1, ⟨vt, vn, vs⟩)).flatMap entV ++ osp), sa, sn, ss, sr]) (Res0 rfl) (by repeat (first | exact Part.nil _ | (apply Part.cons; (first | exact P0 | exact P1 | exact P2 | exact P3 | exact P4 | exact P5 | exact P6 | exact P7 | exact P8 | exact P9 | exact P10 | exact P11 | exact P12 | exact P13 | exact P14 | exact P15 | exact P16 | exact P17 | exact P18 | exact P19 | exact P20 | exact P21 | exact P22 | exact P23)) | (apply Part.flat; simp only [List.cons_append, List.nil_append]) | (apply Part.nilc))) ?_
      unfold Tb.turn
      rw [hgd, hwas, hnow]
      refine ⟨rfl, _, Arr.mk (by rw [flat_len entV_len, List.length_set]) hoc hosp, ?_⟩
      simp
    · refine SPL_y (y_assign rfl) rfl ?_
      refine SPL_nil ?_
      refine thenP_n ?_
      refine SP_seq ?_
      refine SP_seq ?_
      refine SP_region ?_
      refine SPL_y (y_move rfl) rfl ?_
      refine SPL_y (y_move rfl) rfl ?_
      refine SPL_gn rfl rfl rfl rfl ?_
      refine SPL_gn rfl rfl rfl rfl ?_
      refine SPL_y (y_pick_f rfl rfl) rfl ?_
      refine SPL_nil ?_
      refine thenP_n ?_
      refine SP_cond_f rfl ?_
      refine SP_skip ?_
      refine thenP_n ?_
      refine SP_seq ?_
      refine SP_seq ?_
      refine SP_region ?_
      refine SPL_y (y_move rfl) rfl ?_
      refine SPL_y (y_move rfl) rfl ?_
      refine SPL_gy rfl rfl ?_
      refine SPL_y (y_move rfl) rfl ?_
      refine SPL_gy rfl rfl ?_
      refine SPL_y (y_not_f rfl) rfl ?_
      refine SPL_y (y_pick_t rfl rfl) rfl ?_
      refine SPL_nil ?_
      refine thenP_n ?_
      refine SP_cond_t rfl ?_
      refine SP_region ?_
      refine SPL_y (y_move rfl) rfl ?_
      refine SPL_y (y_nil rfl) rfl ?_
      refine SPL_y (y_fa fld_245_5 rfl) rfl ?_
      refine SPL_y (y_load Tryz.isAgg3 rfl (by repeat (first | exact Cell.head rfl | exact Cell.amid hpre rfl | apply Cell.tail))) rfl ?_
      refine SPL_y (y_add rfl rfl (by omega)) rfl ?_
      refine SPL_y (y_nil rfl) rfl ?_
      refine SPL_y (y_fa fld_245_5 rfl) rfl ?_
      refine SPL_one rfl (SP1_storeM (j := 5) Tryz.sizeOf3 rfl rfl rfl hpre (by first | exact U0 | exact U1 | exact U2 | exact U3 | exact U4 | exact U5 | exact U6 | exact U7 | exact U8 | exact U9 | exact U10 | exact U11 | exact U12 | exact U13 | exact U14 | exact U15 | exact U16 | exact U17 | exact U18 | exact U19 | exact U20 | exact U21 | exact U22 | exact U23) (by rfl) ?_)
      simp only [List.set_cons_zero, List.set_cons_succ, List.take_succ_cons, List.take_zero, List.drop_succ_cons, List.drop_zero, List.cons_append, List.nil_append]
      refine SPL_nil ?_
      refine thenP_n ?_
      refine SP_draw 8 [(0, 0), (1, 0), (2, 0), (4, 0), (3, 1), (5, 1), (6, 0), (7, 0), (8, 3)] mixed (by kernel_rfl) (fun _ _ _ _ _ h => h) (Part.refl _) ?_
      refine SPO_p rfl (y_move rfl) rfl ?_
      refine SPO_p rfl (y_nil rfl) rfl ?_
      refine SPO_p rfl (y_fa fld_245_0 rfl) rfl ?_
      refine SPO_p rfl (y_move rfl) rfl ?_
      refine SPO_h rfl (y_load Tryz.isAgg240 rfl (by repeat (first | exact Cell.head rfl | exact Cell.amid hpre rfl | apply Cell.tail))) rfl ?_
      refine SPO_h rfl (y_loads Tryz.isAgg42 Tryz.sizeOf42 rfl rfl (by repeat (first | exact Cells.all _ | exact Cells.head rfl | exact Cells.amid hpre rfl (by decide) | apply Cells.tail))) rfl ?_
      refine SPO_p rfl (y_ia Tryz.underlying240 Tryz.sizeOf257 rfl rfl (by omega)) rfl ?_
      refine SPO_p rfl (y_fa fld_257_1 rfl) rfl ?_
      refine SPO_z (k := 0) rfl rfl (SP1_storesF (l := t.order) (x := (t.order[p].1, ⟨vt, vn, vs⟩)) (vs := valV ⟨vt, vn, vs⟩) entV_len rfl hp rfl (by decide) Tryz.sizeOf42 rfl rfl rfl rfl rfl (by first | exact U0 | exact U1 | exact U2 | exact U3 | exact U4 | exact U5 | exact U6 | exact U7 | exact U8 | exact U9 | exact U10 | exact U11 | exact U12 | exact U13 | exact U14 | exact U15 | exact U16 | exact U17 | exact U18 | exact U19 | exact U20 | exact U21 | exact U22 | exact U23) ?_)
      refine SPO_nil ?_
      refine bodyP_end (H' := [blk b 245 (pre ++ [.slice (some ⟨ob, 0, none⟩) t.order.length oc, .slice aa t.arr.length ac, .map (some nb), .map (some sb), .map (some rb), I (t.dead + 1)] ++ post), blk ob 257 ((t.order.set p (t.order[p].1, ⟨vt, vn, vs⟩)).flatMap entV ++ osp), sa, sn, ss, sr]) (Res0 rfl) (by repeat (first | exact Part.nil _ | (apply Part.cons; (first | exact P0 | exact P1 | exact P2 | exact P3 | exact P4 | exact P5 | exact P6 | exact P7 | exact P8 | exact P9 | exact P10 | exact P11 | exact P12 | exact P13 | exact P14 | exact P15 | exact P16 | exact P17 | exact P18 | exact P19 | exact P20 | exact P21 | exact P22 | exact P23)) | (apply Part.flat; simp only [List.cons_append, List.nil_append]) | (apply Part.nilc))) ?_
      unfold Tb.turn
      rw [hgd, hwas, hnow]
      refine ⟨rfl, _, Arr.mk (by rw [flat_len entV_len, List.length_set]) hoc hosp, ?_⟩
      simp
  · refine SPL_y (y_assign rfl) rfl ?_
    refine SPL_nil ?_
    refine thenP_n ?_
    refine SP_seq ?_
    refine SP_region ?_
    refine SPL_y (y_loads Tryz.isAgg42 Tryz.sizeOf42 rfl rfl (by repeat (first | exact Cells.all _ | exact Cells.head rfl | exact Cells.amid hpre rfl (by decide) | apply Cells.tail))) rfl ?_
    refine SPL_one rfl (SP1_call (tab_isNil ⟨vt, vn, vs⟩) Tryz.call137 rfl rfl (by repeat (first | exact Part.nil _ | (apply Part.cons; (first | exact P0 | exact P1 | exact P2 | exact P3 | exact P4 | exact P5 | exact P6 | exact P7 | exact P8 | exact P9 | exact P10 | exact P11 | exact P12 | exact P13 | exact P14 | exact P15 | exact P16 | exact P17 | exact P18 | exact P19 | exact P20 | exact P21 | exact P22 | exact P23)) | (apply Part.flat; simp only [List.cons_append, List.nil_append]) | (apply Part.nilc))) ?_)
    rintro v post H' ⟨rfl, rfl⟩ hH
    try simp only [List.cons_append, List.nil_append] at hH
    subst hH
    generalize hnow : isNilV ⟨vt, vn, vs⟩ = now
    rcases now with _ | _
    · refine SPL_y (y_assign rfl) rfl ?_
      refine SPL_nil ?_
      refine thenP_n ?_
      refine SP_seq ?_
      refine SP_seq ?_
      refine SP_region ?_
      refine SPL_y (y_move rfl) rfl ?_
      refine SPL_y (y_move rfl) rfl ?_
      refine SPL_gy rfl rfl ?_
      refine SPL_y (y_move rfl) rfl ?_
      refine SPL_gy rfl rfl ?_
      refine SPL_y (y_not_f rfl) rfl ?_
      refine SPL_y (y_pick_t rfl rfl) rfl ?_
      refine SPL_nil ?_
      refine thenP_n ?_
      refine SP_cond_t rfl ?_
      refine SP_region ?_
      refine SPL_y (y_move rfl) rfl ?_
      refine SPL_y (y_nil rfl) rfl ?_
      refine SPL_y (y_fa fld_245_5 rfl) rfl ?_
      refine SPL_y (y_load Tryz.isAgg3 rfl (by repeat (first | exact Cell.head rfl | exact Cell.amid hpre rfl | apply Cell.tail))) rfl ?_
      refine SPL_y (y_sub rfl rfl (by omega)) rfl ?_
      refine SPL_y (y_nil rfl) rfl ?_
      refine SPL_y (y_fa fld_245_5 rfl) rfl ?_
      refine SPL_one rfl (SP1_storeM (j := 5) Tryz.sizeOf3 rfl rfl rfl hpre (by first | exact U0 | exact U1 | exact U2 | exact U3 | exact U4 | exact U5 | exact U6 | exact U7 | exact U8 | exact U9 | exact U10 | exact U11 | exact U12 | exact U13 | exact U14 | exact U15 | exact U16 | exact U17 | exact U18 | exact U19 | exact U20 | exact U21 | exact U22 | exact U23) (by rfl) ?_)
      simp only [List.set_cons_zero, List.set_cons_succ, List.take_succ_cons, List.take_zero, List.drop_succ_cons, List.drop_zero, List.cons_append, List.nil_append]
      refine SPL_nil ?_
      refine thenP_n ?_
      refine SP_seq ?_
      refine SP_seq ?_
      refine SP_region ?_
      refine SPL_y (y_move rfl) rfl ?_
      refine SPL_y (y_move rfl) rfl ?_
      refine SPL_gn rfl rfl rfl rfl ?_
      refine SPL_gn rfl rfl rfl rfl ?_
      refine SPL_y (y_pick_f rfl rfl) rfl ?_
      refine SPL_nil ?_
      refine thenP_n ?_
      refine SP_cond_f rfl ?_
      refine SP_skip ?_
      refine thenP_n ?_
      refine SP_draw 8 [(0, 0), (1, 0), (2, 0), (4, 0), (3, 1), (5, 1), (6, 0), (7, 0), (8, 3)] mixed (by kernel_rfl) (fun _ _ _ _ _ h => h) (Part.refl _) ?_
      refine SPO_p rfl (y_move rfl) rfl ?_
      refine SPO_p rfl (y_nil rfl) rfl ?_
      refine SPO_p rfl (y_fa fld_245_0 rfl) rfl ?_
      refine SPO_p rfl (y_move rfl) rfl ?_
      refine SPO_h rfl (y_load Tryz.isAgg240 rfl (by repeat (first | exact Cell.head rfl | exact Cell.amid hpre rfl | apply Cell.tail))) rfl ?_
      refine SPO_h rfl (y_loads Tryz.isAgg42 Tryz.sizeOf42 rfl rfl (by repeat (first | exact Cells.all _ | exact Cells.head rfl | exact Cells.amid hpre rfl (by decide) | apply Cells.tail))) rfl ?_
      refine SPO_p rfl (y_ia Tryz.underlying240 Tryz.sizeOf257 rfl rfl (by omega)) rfl ?_
      refine SPO_p rfl (y_fa fld_257_1 rfl) rfl ?_
      refine SPO_z (k := 0) rfl rfl (SP1_storesF (l := t.order) (x := (t.order[p].1, ⟨vt, vn, vs⟩)) (vs := valV ⟨vt, vn, vs⟩) entV_len rfl hp rfl (by decide) Tryz.sizeOf42 rfl rfl rfl rfl rfl (by first | exact U0 | exact U1 | exact U2 | exact U3 | exact U4 | exact U5 | exact U6 | exact U7 | exact U8 | exact U9 | exact U10 | exact U11 | exact U12 | exact U13 | exact U14 | exact U15 | exact U16 | exact U17 | exact U18 | exact U19 | exact U20 | exact U21 | exact U22 | exact U23) ?_)
      refine SPO_nil ?_
      refine bodyP_end (H' := [blk b 245 (pre ++ [.slice (some ⟨ob, 0, none⟩) t.order.length oc, .slice aa t.arr.length ac, .map (some nb), .map (some sb), .map (some rb), I (t.dead - 1)] ++ post), blk ob 257 ((t.order.set p (t.order[p].1, ⟨vt, vn, vs⟩)).flatMap entV ++ osp), sa, sn, ss, sr]) (Res0 rfl) (by repeat (first | exact Part.nil _ | (apply Part.cons; (first | exact P0 | exact P1 | exact P2 | exact P3 | exact P4 | exact P5 | exact P6 | exact P7 | exact P8 | exact P9 | exact P10 | exact P11 | exact P12 | exact P13 | exact P14 | exact P15 | exact P16 | exact P17 | exact P18 | exact P19 | exact P20 | exact P21 | exact P22 | exact P23)) | (apply Part.flat; simp only [List.cons_append, List.nil_append]) | (apply Part.nilc))) ?_
      unfold Tb.turn
      rw [hgd, hwas, hnow]
      refine ⟨rfl, _, Arr.mk (by rw [flat_len entV_len, List.length_set]) hoc hosp, ?_⟩
      simp
    · refine SPL_y (y_assign rfl) rfl ?_
      refine SPL_nil ?_
      refine thenP_n ?_
      refine SP_seq ?_
      refine SP_seq ?_
      refine SP_region ?_
      refine SPL_y (y_move rfl) rfl ?_
      refine SPL_y (y_move rfl) rfl ?_
      refine SPL_gy rfl rfl ?_
      refine SPL_y (y_move rfl) rfl ?_
      refine SPL_gy rfl rfl ?_
      refine SPL_y (y_not_t rfl) rfl ?_
      refine SPL_y (y_pick_t rfl rfl) rfl ?_
      refine SPL_nil ?_
      refine thenP_n ?_
      refine SP_cond_f rfl ?_
      refine SP_skip ?_
      refine thenP_n ?_
      refine SP_seq ?_
      refine SP_seq ?_
      refine SP_region ?_
      refine SPL_y (y_move rfl) rfl ?_
      refine SPL_y (y_move rfl) rfl ?_
      refine SPL_gy rfl rfl ?_
      refine SPL_y (y_move rfl) rfl ?_
      refine SPL_gy rfl rfl ?_
      refine SPL_y (y_not_t rfl) rfl ?_
      refine SPL_y (y_pick_t rfl rfl) rfl ?_
      refine SPL_nil ?_
      refine thenP_n ?_
      refine SP_cond_f rfl ?_
      refine SP_skip ?_
      refine thenP_n ?_
      refine SP_draw 8 [(0, 0), (1, 0), (2, 0), (4, 0), (3, 1), (5, 1), (6, 0), (7, 0), (8, 3)] mixed (by kernel_rfl) (fun _ _ _ _ _ h => h) (Part.refl _) ?_
      refine SPO_p rfl (y_move rfl) rfl ?_
      refine SPO_p rfl (y_nil rfl) rfl ?_
      refine SPO_p rfl (y_fa fld_245_0 rfl) rfl ?_
      refine SPO_p rfl (y_move rfl) rfl ?_
      refine SPO_h rfl (y_load Tryz.isAgg240 rfl (by repeat (first | exact Cell.head rfl | exact Cell.amid hpre rfl | apply Cell.tail))) rfl ?_
      refine SPO_h rfl (y_loads Tryz.isAgg42 Tryz.sizeOf42 rfl rfl (by repeat (first | exact Cells.all _ | exact Cells.head rfl | exact Cells.amid hpre rfl (by decide) | apply Cells.tail))) rfl ?_
      refine SPO_p rfl (y_ia Tryz.underlying240 Tryz.sizeOf257 rfl rfl (by omega)) rfl ?_
      refine SPO_p rfl (y_fa fld_257_1 rfl) rfl ?_
      refine SPO_z (k := 0) rfl rfl (SP1_storesF (l := t.order) (x := (t.order[p].1, ⟨vt, vn, vs⟩)) (vs := valV ⟨vt, vn, vs⟩) entV_len rfl hp rfl (by decide) Tryz.sizeOf42 rfl rfl rfl rfl rfl (by first | exact U0 | exact U1 | exact U2 | exact U3 | exact U4 | exact U5 | exact U6 | exact U7 | exact U8 | exact U9 | exact U10 | exact U11 | exact U12 | exact U13 | exact U14 | exact U15 | exact U16 | exact U17 | exact U18 | exact U19 | exact U20 | exact U21 | exact U22 | exact U23) ?_)
      refine SPO_nil ?_
      refine bodyP_end (H' := [blk b 245 (pre ++ [.slice (some ⟨ob, 0, none⟩) t.order.length oc, .slice aa t.arr.length ac, .map (some nb), .map (some sb), .map (some rb), I (t.dead)] ++ post), blk ob 257 ((t.order.set p (t.order[p].1, ⟨vt, vn, vs⟩)).flatMap entV ++ osp), sa, sn, ss, sr]) (Res0 rfl) (by repeat (first | exact Part.nil _ | (apply Part.cons; (first | exact P0 | exact P1 | exact P2 | exact P3 | exact P4 | exact P5 | exact P6 | exact P7 | exact P8 | exact P9 | exact P10 | exact P11 | exact P12 | exact P13 | exact P14 | exact P15 | exact P16 | exact P17 | exact P18 | exact P19 | exact P20 | exact P21 | exact P22 | exact P23)) | (apply Part.flat; simp only [List.cons_append, List.nil_append]) | (apply Part.nilc))) ?_
      unfold Tb.turn
      rw [hgd, hwas, hnow]
      refine ⟨rfl, _, Arr.mk (by rw [flat_len entV_len, List.length_set]) hoc hosp, ?_⟩
      simp

theorem tab_index (b o : Nat) (pre post : List Value) (hpre : pre.length = o) (t : Tb) (oa aa : Option Addr) (oc ac nb sb rb : Nat) (so sa sn ss sr : Seg) (ho : Arr 257 6 oa t.order.length oc (t.order.flatMap entV) so) (ha : Arr 21 1 aa t.arr.length ac (t.arr.map i32V) sa) (hn : isMap u64K i32V nb t.nums sn) (hs : isMap S i32V sb t.strs ss) (hr : isMap u64K i32V rb t.refs sr) (k : V) (p : Int) (t2 : Tb) (h : t.index k p = some t2) : Spec Tryz.prog 138 [.pointer (some ⟨b, o, none⟩), .agg (valV k).toArray, i32V p] [blk b 245 (pre ++ [.slice oa t.order.length oc, .slice aa t.arr.length ac, .map (some nb), .map (some sb), .map (some rb), I (t.dead)] ++ post), so, sa, sn, ss, sr] (Ret fun r H => r = .tuple #[] ∧ ∃ sn' ss' sr', isMap u64K i32V nb t2.nums sn' ∧ isMap S i32V sb t2.strs ss' ∧ isMap u64K i32V rb t2.refs sr' ∧ t2.order = t.order ∧ t2.arr = t.arr ∧ t2.dead = t.dead ∧ H = [blk b 245 (pre ++ [.slice oa t.order.length oc, .slice aa t.arr.length ac, .map (some nb), .map (some sb), .map (some rb), I (t.dead)] ++ post), so, sa, sn', ss', sr']) := by
  obtain ⟨kt, kn, ks⟩ := k
  dsimp only [valV]
  unfold Tb.index at h
  dsimp only at h
  refine Spec_enter Tryz.func138 rfl Tryz.ntmps138 rfl ?_
  show SP _ _ _ _ _ [(0, _), (1, _), (2, _)] _
  refine SP_seq ?_
  refine SP_region ?_
  refine SPL_one rfl (SP1_box rfl rfl rfl ?_)
  intro b4
  refine SPL_nil ?_
  refine thenP_n ?_
  refine SP_seq ?_
  refine SP_region ?_
  refine SPL_y (y_fa fld_42_0 rfl) rfl ?_
  refine SPL_y (y_load Tryz.isAgg3 rfl (by repeat (first | exact Cell.head rfl | exact Cell.amid hpre rfl | apply Cell.tail))) rfl ?_
  refine SPL_nil ?_
  refine thenP_n ?_
  refine SP_block ?_
  refine SP_seq ?_
  refine SP_region ?_
  refine SPL_if (y_eql rfl rfl) rfl ?_ ?_
  · intro h3_0
    refine SPL_y (y_assign rfl) rfl ?_
    refine SPL_nil ?_
    refine thenP_n ?_
    refine SP_cond_t rfl ?_
    refine SP_draw 7 [(0, 0), (1, 0), (2, 0), (4, 0), (6, 0), (3, 1), (5, 1), (7, 3)] mixed (by kernel_rfl) (fun _ _ _ _ _ h => h) (Part.refl _) ?_
    refine SPO_p rfl (y_move rfl) rfl ?_
    refine SPO_p rfl (y_nil rfl) rfl ?_
    refine SPO_p rfl (y_fa fld_245_2 rfl) rfl ?_
    refine SPO_p rfl (y_fa fld_42_1 rfl) rfl ?_
    refine SPO_p rfl (y_move rfl) rfl ?_
    refine SPO_h rfl (y_load Tryz.isAgg242 rfl (by repeat (first | exact Cell.head rfl | exact Cell.amid hpre rfl | apply Cell.tail))) rfl ?_
    refine SPO_h rfl (y_load Tryz.isAgg40 rfl (by repeat (first | exact Cell.head rfl | exact Cell.amid hpre rfl | apply Cell.tail))) rfl ?_
    rw [if_pos h3_0] at h
    have hfr : mfind t.nums kn = none := by
      refine Decidable.byContradiction fun q => ?_
      rw [if_neg q] at h; cases h
    rw [if_pos hfr] at h
    cases h
    refine SPO_z (k := 0) rfl rfl (SP1_putG Tryz.underlying242 kU hn rfl rfl rfl (by first | exact P0 | exact P1 | exact P2 | exact P3 | exact P4 | exact P5 | exact P6 | exact P7 | exact P8 | exact P9 | exact P10 | exact P11 | exact P12 | exact P13 | exact P14 | exact P15 | exact P16 | exact P17 | exact P18 | exact P19 | exact P20 | exact P21 | exact P22 | exact P23) hfr ?_)
    intro s9 h9
    refine SPO_nil ?_
    refine inBlockP_n ?_
    refine bodyP_end (H' := [blk b 245 (pre ++ [.slice oa t.order.length oc, .slice aa t.arr.length ac, .map (some nb), .map (some sb), .map (some rb), I (t.dead)] ++ post), so, sa, s9, ss, sr]) (Res0 rfl) (by repeat (first | exact Part.nil _ | (apply Part.cons; (first | exact P0 | exact P1 | exact P2 | exact P3 | exact P4 | exact P5 | exact P6 | exact P7 | exact P8 | exact P9 | exact P10 | exact P11 | exact P12 | exact P13 | exact P14 | exact P15 | exact P16 | exact P17 | exact P18 | exact P19 | exact P20 | exact P21 | exact P22 | exact P23)) | (apply Part.flat; simp only [List.cons_append, List.nil_append]) | (apply Part.nilc))) ?_
    exact ⟨rfl, s9, ss, sr, h9, hs, hr, rfl, rfl, rfl, rfl⟩
  intro h3_0
  refine SPL_y (y_assign rfl) rfl ?_
  refine SPL_nil ?_
  refine thenP_n ?_
  refine SP_cond_f rfl ?_
  refine SP_seq ?_
  refine SP_region ?_
  refine SPL_if (y_eql rfl rfl) rfl ?_ ?_
  · intro h5_0
    refine SPL_y (y_assign rfl) rfl ?_
    refine SPL_nil ?_
    refine thenP_n ?_
    refine SP_cond_t rfl ?_
    refine SP_draw 7 [(0, 0), (1, 0), (2, 0), (4, 0), (6, 0), (3, 1), (5, 1), (7, 3)] mixed (by kernel_rfl) (fun _ _ _ _ _ h => h) (Part.refl _) ?_
    refine SPO_p rfl (y_move rfl) rfl ?_
    refine SPO_p rfl (y_nil rfl) rfl ?_
    refine SPO_p rfl (y_fa fld_245_3 rfl) rfl ?_
    refine SPO_p rfl (y_fa fld_42_2 rfl) rfl ?_
    refine SPO_p rfl (y_move rfl) rfl ?_
    refine SPO_h rfl (y_load Tryz.isAgg243 rfl (by repeat (first | exact Cell.head rfl | exact Cell.amid hpre rfl | apply Cell.tail))) rfl ?_
    refine SPO_h rfl (y_load Tryz.isAgg9 rfl (by repeat (first | exact Cell.head rfl | exact Cell.amid hpre rfl | apply Cell.tail))) rfl ?_
    rw [if_neg h3_0, if_pos h5_0] at h
    have hfr : mfind t.strs ks = none := by
      refine Decidable.byContradiction fun q => ?_
      rw [if_neg q] at h; cases h
    rw [if_pos hfr] at h
    cases h
    refine SPO_z (k := 0) rfl rfl (SP1_putG Tryz.underlying243 kS hs rfl rfl rfl (by first | exact P0 | exact P1 | exact P2 | exact P3 | exact P4 | exact P5 | exact P6 | exact P7 | exact P8 | exact P9 | exact P10 | exact P11 | exact P12 | exact P13 | exact P14 | exact P15 | exact P16 | exact P17 | exact P18 | exact P19 | exact P20 | exact P21 | exact P22 | exact P23) hfr ?_)
    intro s9 h9
    refine SPO_nil ?_
    refine inBlockP_n ?_
    refine bodyP_end (H' := [blk b 245 (pre ++ [.slice oa t.order.length oc, .slice aa t.arr.length ac, .map (some nb), .map (some sb), .map (some rb), I (t.dead)] ++ post), so, sa, sn, s9, sr]) (Res0 rfl) (by repeat (first | exact Part.nil _ | (apply Part.cons; (first | exact P0 | exact P1 | exact P2 | exact P3 | exact P4 | exact P5 | exact P6 | exact P7 | exact P8 | exact P9 | exact P10 | exact P11 | exact P12 | exact P13 | exact P14 | exact P15 | exact P16 | exact P17 | exact P18 | exact P19 | exact P20 | exact P21 | exact P22 | exact P23)) | (apply Part.flat; simp only [List.cons_append, List.nil_append]) | (apply Part.nilc))) ?_
    exact ⟨rfl, sn, s9, sr, hn, h9, hr, rfl, rfl, rfl, rfl⟩
  intro h5_0
  refine SPL_y (y_assign rfl) rfl ?_
  refine SPL_nil ?_
  refine thenP_n ?_
  refine SP_cond_f rfl ?_
  refine SP_draw 7 [(0, 0), (1, 0), (2, 0), (6, 0), (3, 1), (4, 1), (5, 2), (7, 3)] mixed (by kernel_rfl) (fun _ _ _ _ _ h => h) (Part.refl _) ?_
  refine SPO_p rfl (y_move rfl) rfl ?_
  refine SPO_p rfl (y_nil rfl) rfl ?_
  refine SPO_p rfl (y_fa fld_245_4 rfl) rfl ?_
  refine SPO_p rfl (y_move rfl) rfl ?_
  refine SPO_h rfl (y_load Tryz.isAgg242 rfl (by repeat (first | exact Cell.head rfl | exact Cell.amid hpre rfl | apply Cell.tail))) rfl ?_
  refine SPO_h rfl (y_loads Tryz.isAgg42 Tryz.sizeOf42 rfl rfl (by repeat (first | exact Cells.all _ | exact Cells.head rfl | exact Cells.amid hpre rfl (by decide) | apply Cells.tail))) rfl ?_
  refine SPO_a rfl rfl (SP1_call (tab_pack ⟨kt, kn, ks⟩) Tryz.call210 rfl rfl (by repeat (first | exact Part.nil _ | (apply Part.cons; (first | exact P0 | exact P1 | exact P2 | exact P3 | exact P4 | exact P5 | exact P6 | exact P7 | exact P8 | exact P9 | exact P10 | exact P11 | exact P12 | exact P13 | exact P14 | exact P15 | exact P16 | exact P17 | exact P18 | exact P19 | exact P20 | exact P21 | exact P22 | exact P23)) | (apply Part.flat; simp only [List.cons_append, List.nil_append]) | (apply Part.nilc))) ?_)
  rintro v post H' ⟨rfl, rfl⟩ hH
  try simp only [List.cons_append, List.nil_append] at hH
  subst hH
  refine ⟨⟨_, (by repeat (first | exact Part.nil _ | (apply Part.cons; (first | exact P0 | exact P1 | exact P2 | exact P3 | exact P4 | exact P5 | exact P6 | exact P7 | exact P8 | exact P9 | exact P10 | exact P11 | exact P12 | exact P13 | exact P14 | exact P15 | exact P16 | exact P17 | exact P18 | exact P19 | exact P20 | exact P21 | exact P22 | exact P23)) | (apply Part.flat; simp only [List.cons_append, List.nil_append]) | (apply Part.nilc)))⟩, ?_⟩
  rw [if_neg h3_0, if_neg h5_0] at h
  have hfr : mfind t.refs (packM ⟨kt, kn, ks⟩) = none := by
    refine Decidable.byContradiction fun q => ?_
    rw [if_neg q] at h; cases h
  rw [if_pos hfr] at h
  cases h
  refine SPO_z (k := 0) rfl rfl (SP1_putG Tryz.underlying242 kU hr rfl rfl rfl (by first | exact P0 | exact P1 | exact P2 | exact P3 | exact P4 | exact P5 | exact P6 | exact P7 | exact P8 | exact P9 | exact P10 | exact P11 | exact P12 | exact P13 | exact P14 | exact P15 | exact P16 | exact P17 | exact P18 | exact P19 | exact P20 | exact P21 | exact P22 | exact P23) hfr ?_)
  intro s9 h9
  refine SPO_nil ?_
  refine inBlockP_n ?_
  refine bodyP_end (H' := [blk b 245 (pre ++ [.slice oa t.order.length oc, .slice aa t.arr.length ac, .map (some nb), .map (some sb), .map (some rb), I (t.dead)] ++ post), so, sa, sn, ss, s9]) (Res0 rfl) (by repeat (first | exact Part.nil _ | (apply Part.cons; (first | exact P0 | exact P1 | exact P2 | exact P3 | exact P4 | exact P5 | exact P6 | exact P7 | exact P8 | exact P9 | exact P10 | exact P11 | exact P12 | exact P13 | exact P14 | exact P15 | exact P16 | exact P17 | exact P18 | exact P19 | exact P20 | exact P21 | exact P22 | exact P23)) | (apply Part.flat; simp only [List.cons_append, List.nil_append]) | (apply Part.nilc))) ?_
  exact ⟨rfl, sn, ss, s9, hn, hs, h9, rfl, rfl, rfl, rfl⟩

end Go.Sl
