/- Walks: package compm, the stacks (made by program out of short notes) -/
import Derived.Test.Qxb6500573aGreatDoorCMD
namespace Go.Sl
open Go Go.Wl Go.Proofs
open Go.Nm
set_option maxRecDepth 100000
set_option linter.unusedVariables false
set_option linter.unusedSimpArgs false
theorem hb_at {hb : List Nat} {hsp : List Value} {n c : Nat} (h : hb.length = n) (hc : c < n) : (hb.map ptr ++ hsp)[0 + ((c : Nat) : Int).toNat * 1]? = some (ptr (hb.getD c 0)) := by
  rw [Int.toNat_natCast, Nat.mul_one, Nat.zero_add, List.getElem?_append_left (by rw [List.length_map]; omega), List.getElem?_map, List.getElem?_eq_getElem (by omega), List.getD_eq_getElem?_getD, List.getElem?_eq_getElem (by omega)]
  rfl
theorem cm_push (x : RX) (eb hb : List Nat) {m m' : RnM} (v : V) (hP : rpush v m = some m') (s : Seg) (hM : isRm x eb hb m s) : Spec Tryz.prog 107 [ptr x.b, .agg (valV v).toArray] [s] (Ret fun v H => v = .tuple #[] ∧ ∃ s', isRm x eb hb m' s' ∧ H = [s']) := by
  unfold rpush at hP
  have hg : curOk m ∧ (thG m).vals.length ≤ 1000000 := Decidable.byContradiction fun q => by rw [if_neg q] at hP; cases hP
  rw [if_pos hg] at hP
  injection hP with hP
  subst hP
  obtain ⟨⟨hq1, hq2⟩, hq3⟩ := hg
  obtain ⟨c, hcc⟩ : ∃ c : Nat, m.cur = c := ⟨m.cur.toNat, by omega⟩
  have hc : c < m.ths.length := by omega
  rw [thG_eq hcc hc] at hq3
  obtain ⟨ca, cc, hk, hc', hsp, s0, s1, s2, s3, s4, sX, sA, sZ, R, ta, tc, va, vc, sa, sv, rfl, hstk, hhl, hTA, hVA, hTS, hput⟩ := isRm_open hM hc
  refine Spec_openAt [blk x.b 142 [ptr x.nb, ptr x.tb, Value.slice x.na m.nodes.length x.nc, I m.root, Value.slice ca m.clos.length cc, Value.slice (some ⟨hk, 0, none⟩) m.ths.length hc', I s0, I s1, I s2, I s3, I s4, I m.sp, I m.cur, I m.fuel, I m.first, S m.out, .bool m.done, I m.ans.e, I m.ans.n, I m.ans.m, S m.ans.s, S m.ans.t], sX, blk hk 149 (hb.map ptr ++ hsp), sA, List.flatten [blk (hb.getD c 0) 152 [I m.ths[c].st, I m.ths[c].fn, I (m.ths[c].depth), Value.slice ta (m.ths[c].tasks.length) tc, Value.slice va (m.ths[c].vals.length) vc], sa, sv], sZ, R] (by first | exact P0 | exact P1 | exact P2 | exact P3 | exact P4 | exact P5 | exact P6 | exact P7 | exact P8 | exact P9 | exact P10 | exact P11 | exact P12 | exact P13 | exact P14 | exact P15 | exact P16 | exact P17 | exact P18 | exact P19 | exact P20 | exact P21 | exact P22 | exact P23) ?_
  simp only [List.cons_append, List.nil_append]
  refine Spec_openAt [blk (hb.getD c 0) 152 [I m.ths[c].st, I m.ths[c].fn, I (m.ths[c].depth), Value.slice ta (m.ths[c].tasks.length) tc, Value.slice va (m.ths[c].vals.length) vc], sa, sv] (by first | exact P0 | exact P1 | exact P2 | exact P3 | exact P4 | exact P5 | exact P6 | exact P7 | exact P8 | exact P9 | exact P10 | exact P11 | exact P12 | exact P13 | exact P14 | exact P15 | exact P16 | exact P17 | exact P18 | exact P19 | exact P20 | exact P21 | exact P22 | exact P23) ?_
  simp only [List.cons_append, List.nil_append]
  have hcell : ∀ H : Hp, Cell (blk hk 149 (hb.map ptr ++ hsp) :: H) hk (0 + ((c : Nat) : Int).toNat * 1) (ptr (hb.getD c 0)) := fun H => Cell.head (hb_at hhl hc)
  rw [hcc]
  refine Spec_enter Tryz.func107 rfl Tryz.ntmps107 rfl ?_
  show SP _ _ _ _ _ [(0, _), (1, _)] _
  refine SP_seq ?_
  refine SP_region ?_
  refine SPL_one rfl (SP1_box rfl rfl rfl ?_)
  intro b3
  refine SPL_nil ?_
  refine thenP_n ?_
  refine SP_seq ?_
  refine SP_draw 999 [(0, 0), (1, 0), (2, 0), (4, 0), (5, 0), (6, 0), (3, 1), (7, 1), (8, 0), (9, 1), (10, 0)] mixed (by kernel_rfl) (fun _ _ _ _ _ h => h) (Part.refl _) ?_
  refine SPO_p rfl (y_move rfl) rfl ?_
  refine SPO_p rfl (y_nil rfl) rfl ?_
  refine SPO_p rfl (y_fa fld_142_5 rfl) rfl ?_
  refine SPO_p rfl (y_move rfl) rfl ?_
  refine SPO_p rfl (y_nil rfl) rfl ?_
  refine SPO_p rfl (y_fa fld_142_8 rfl) rfl ?_
  refine SPO_h rfl (y_load Tryz.isAgg139 rfl (by repeat (first | exact Cell.amid hpre rfl | exact Cell.head rfl | apply Cell.tail))) rfl ?_
  refine SPO_h rfl (y_load Tryz.isAgg3 rfl (by repeat (first | exact Cell.amid hpre rfl | exact Cell.head rfl | apply Cell.tail))) rfl ?_
  refine SPO_p rfl (y_ia Tryz.underlying139 Tryz.sizeOf149 rfl rfl (by omega)) rfl ?_
  refine SPO_h rfl (y_load Tryz.isAgg149 rfl (by repeat (first | exact hcell _ | apply Cell.tail))) rfl ?_
  refine SPO_p rfl (y_assign rfl) rfl ?_
  refine SPO_nil ?_
  refine thenP_n ?_
  refine SP_draw 7 [(0, 0), (1, 0), (2, 0), (3, 0), (4, 1), (5, 1), (6, 2), (7, 3), (8, 0), (9, 0), (10, 3)] mixed (by kernel_rfl) (fun _ _ _ _ _ h => h) (Part.refl _) ?_
  refine SPO_p rfl (y_move rfl) rfl ?_
  refine SPO_p rfl (y_move rfl) rfl ?_
  refine SPO_p rfl (y_nil rfl) rfl ?_
  refine SPO_p rfl (y_fa fld_152_4 rfl) rfl ?_
  refine SPO_h rfl (y_load Tryz.isAgg90 rfl (by repeat (first | exact Cell.amid hpre rfl | exact Cell.head rfl | apply Cell.tail))) rfl ?_
  refine SPO_h rfl (y_loads Tryz.isAgg42 Tryz.sizeOf42 rfl rfl (by repeat (first | exact Cells.all _ | exact Cells.amid hpre rfl (by decide) | exact Cells.head rfl | apply Cells.tail))) rfl ?_
  refine SPO_a rfl rfl (SP1_slice1 el_90 rfl rfl rfl rfl rfl ?_)
  intro b21
  refine ⟨⟨_, (by repeat (first | exact Part.nil _ | (apply Part.cons; with_reducible (first | exact P0 | exact P1 | exact P2 | exact P3 | exact P4 | exact P5 | exact P6 | exact P7 | exact P8 | exact P9 | exact P10 | exact P11 | exact P12 | exact P13 | exact P14 | exact P15 | exact P16 | exact P17 | exact P18 | exact P19 | exact P20 | exact P21 | exact P22 | exact P23)) | (apply Part.flat; simp only [List.cons_append, List.nil_append]) | (apply Part.cons; (first | exact P0 | exact P1 | exact P2 | exact P3 | exact P4 | exact P5 | exact P6 | exact P7 | exact P8 | exact P9 | exact P10 | exact P11 | exact P12 | exact P13 | exact P14 | exact P15 | exact P16 | exact P17 | exact P18 | exact P19 | exact P20 | exact P21 | exact P22 | exact P23)) | (apply Part.nilc)))⟩, ?_⟩
  refine SPO_z (k := 0) rfl rfl (SP1_append el_90 (.inl Tryz.underlying90) rfl rfl hVA (by first | exact P0 | exact P1 | exact P2 | exact P3 | exact P4 | exact P5 | exact P6 | exact P7 | exact P8 | exact P9 | exact P10 | exact P11 | exact P12 | exact P13 | exact P14 | exact P15 | exact P16 | exact P17 | exact P18 | exact P19 | exact P20 | exact P21 | exact P22 | exact P23) (Src.of (by repeat (first | exact Cells.all _ | exact Cells.amid hpre rfl (by decide) | exact Cells.head rfl | apply Cells.tail)) (by rfl)) (by rfl) (by omega) rfl ?_)
  intro va' vc' sv' hVA2
  refine SPO_p rfl (y_nil rfl) rfl ?_
  refine SPO_p rfl (y_fa fld_152_4 rfl) rfl ?_
  refine SPO_z (k := 0) rfl rfl (SP1_store Tryz.sizeOf90 rfl rfl rfl (by first | exact U0 | exact U1 | exact U2 | exact U3 | exact U4 | exact U5 | exact U6 | exact U7 | exact U8 | exact U9 | exact U10 | exact U11 | exact U12 | exact U13 | exact U14 | exact U15 | exact U16 | exact U17 | exact U18 | exact U19 | exact U20 | exact U21 | exact U22 | exact U23) (by rfl) ?_)
  refine SPO_nil ?_
  refine bodyP_end (H' := [List.flatten [blk x.b 142 [ptr x.nb, ptr x.tb, Value.slice x.na m.nodes.length x.nc, I m.root, Value.slice ca m.clos.length cc, Value.slice (some ⟨hk, 0, none⟩) m.ths.length hc', I s0, I s1, I s2, I s3, I s4, I m.sp, I (c : Int), I m.fuel, I m.first, S m.out, .bool m.done, I m.ans.e, I m.ans.n, I m.ans.m, S m.ans.s, S m.ans.t], sX, blk hk 149 (hb.map ptr ++ hsp), sA, List.flatten [blk (hb.getD c 0) 152 [I m.ths[c].st, I m.ths[c].fn, I (m.ths[c].depth), Value.slice ta (m.ths[c].tasks.length) tc, Value.slice va' (m.ths[c].vals.length + 1) vc'], sa, sv'], sZ, R]]) (Res0 rfl) (by repeat (first | exact Part.nil _ | (apply Part.cons; with_reducible (first | exact P0 | exact P1 | exact P2 | exact P3 | exact P4 | exact P5 | exact P6 | exact P7 | exact P8 | exact P9 | exact P10 | exact P11 | exact P12 | exact P13 | exact P14 | exact P15 | exact P16 | exact P17 | exact P18 | exact P19 | exact P20 | exact P21 | exact P22 | exact P23)) | (apply Part.flat; simp only [List.cons_append, List.nil_append]) | (apply Part.cons; (first | exact P0 | exact P1 | exact P2 | exact P3 | exact P4 | exact P5 | exact P6 | exact P7 | exact P8 | exact P9 | exact P10 | exact P11 | exact P12 | exact P13 | exact P14 | exact P15 | exact P16 | exact P17 | exact P18 | exact P19 | exact P20 | exact P21 | exact P22 | exact P23)) | (apply Part.nilc))) ?_
  refine ⟨rfl, _, hput (rset m { thG m with vals := (thG m).vals ++ [v] }) s0 s1 s2 s3 s4 { m.ths[c] with vals := m.ths[c].vals ++ [v] } ta tc va' vc' sa sv' m.ths[c].tasks.length (m.ths[c].vals.length + 1) rfl rfl rfl ?_ rfl rfl hstk rfl (by simp) hTA (by simpa using hVA2) hTS, ?_⟩
  · unfold rset; rw [thG_eq hcc hc, hcc]; rfl
  · rw [← hcc]; rfl

theorem flat_tk1 {α : Type} {f : α → List Value} {k : Nat} (hf : ∀ x, (f x).length = k) (l : List α) (j : Nat) : (l.flatMap f).take (j * k) = (l.take j).flatMap f := by
  induction l generalizing j with
  | nil => simp
  | cons a l ih =>
    cases j with
    | zero => simp
    | succ j =>
      rw [List.flatMap_cons, List.take_succ_cons, List.flatMap_cons, Nat.succ_mul, Nat.add_comm, List.take_append, hf a, List.take_of_length_le (by rw [hf a]; omega), Nat.add_sub_cancel_left, ih]
theorem getD_last {l : List V} {n : Nat} (h : n < l.length) : l.getD n V.nil = l[n] := by rw [List.getD_eq_getElem?_getD, List.getElem?_eq_getElem h]; rfl
theorem cm_pop (x : RX) (eb hb : List Nat) {m m' : RnM} {v : V} (hP : rpop m = some (v, m')) (s : Seg) (hM : isRm x eb hb m s) : Spec Tryz.prog 99 [ptr x.b] [s] (Ret fun r H => r = .agg (valV v).toArray ∧ ∃ s', isRm x eb hb m' s' ∧ H = [s']) := by
  unfold rpop at hP
  have hg : curOk m ∧ (0 < (thG m).vals.length ∧ (thG m).vals.length ≤ 1000000) := Decidable.byContradiction fun q => by rw [if_neg q] at hP; cases hP
  rw [if_pos hg] at hP
  injection hP with hP
  injection hP with h1 h2
  subst h1
  subst h2
  obtain ⟨⟨hq1, hq2⟩, hq3⟩ := hg
  obtain ⟨c, hcc⟩ : ∃ c : Nat, m.cur = c := ⟨m.cur.toNat, by omega⟩
  have hc : c < m.ths.length := by omega
  have hth := thG_eq hcc hc
  rw [hth] at hq3
  obtain ⟨ca, cc, hk, hc', hsp, s0, s1, s2, s3, s4, sX, sA, sZ, R, ta, tc, va, vc, sa, sv, rfl, hstk, hhl, hTA, hVA, hTS, hput⟩ := isRm_open hM hc
  refine Spec_openAt [blk x.b 142 [ptr x.nb, ptr x.tb, Value.slice x.na m.nodes.length x.nc, I m.root, Value.slice ca m.clos.length cc, Value.slice (some ⟨hk, 0, none⟩) m.ths.length hc', I s0, I s1, I s2, I s3, I s4, I m.sp, I m.cur, I m.fuel, I m.first, S m.out, .bool m.done, I m.ans.e, I m.ans.n, I m.ans.m, S m.ans.s, S m.ans.t], sX, blk hk 149 (hb.map ptr ++ hsp), sA, List.flatten [blk (hb.getD c 0) 152 [I m.ths[c].st, I m.ths[c].fn, I (m.ths[c].depth), Value.slice ta (m.ths[c].tasks.length) tc, Value.slice va (m.ths[c].vals.length) vc], sa, sv], sZ, R] (by first | exact P0 | exact P1 | exact P2 | exact P3 | exact P4 | exact P5 | exact P6 | exact P7 | exact P8 | exact P9 | exact P10 | exact P11 | exact P12 | exact P13 | exact P14 | exact P15 | exact P16 | exact P17 | exact P18 | exact P19 | exact P20 | exact P21 | exact P22 | exact P23) ?_
  simp only [List.cons_append, List.nil_append]
  refine Spec_openAt [blk (hb.getD c 0) 152 [I m.ths[c].st, I m.ths[c].fn, I (m.ths[c].depth), Value.slice ta (m.ths[c].tasks.length) tc, Value.slice va (m.ths[c].vals.length) vc], sa, sv] (by first | exact P0 | exact P1 | exact P2 | exact P3 | exact P4 | exact P5 | exact P6 | exact P7 | exact P8 | exact P9 | exact P10 | exact P11 | exact P12 | exact P13 | exact P14 | exact P15 | exact P16 | exact P17 | exact P18 | exact P19 | exact P20 | exact P21 | exact P22 | exact P23) ?_
  simp only [List.cons_append, List.nil_append]
  have hcell : ∀ H : Hp, Cell (blk hk 149 (hb.map ptr ++ hsp) :: H) hk (0 + ((c : Nat) : Int).toNat * 1) (ptr (hb.getD c 0)) := fun H => Cell.head (hb_at hhl hc)
  rw [hcc]
  obtain ⟨vk, vsp, rfl, hvc, hvsp, rfl⟩ := hVA.row (by omega)
  have hil : m.ths[c].vals.length - 1 < m.ths[c].vals.length := by omega
  refine Spec_enter Tryz.func99 rfl Tryz.ntmps99 rfl ?_
  show SP _ _ _ _ _ [(0, _)] _
  refine SP_seq ?_
  refine SP_region ?_
  refine SPL_one rfl (SP1_alloc Tryz.zeroValue42 rfl rfl ?_)
  intro b2
  refine SPL_nil ?_
  refine thenP_n ?_
  refine SP_seq ?_
  refine SP_draw 999 [(0, 0), (1, 0), (2, 0), (4, 0), (5, 0), (6, 0), (3, 1), (7, 1), (8, 0), (9, 1), (10, 0)] mixed (by kernel_rfl) (fun _ _ _ _ _ h => h) (Part.refl _) ?_
  refine SPO_p rfl (y_move rfl) rfl ?_
  refine SPO_p rfl (y_nil rfl) rfl ?_
  refine SPO_p rfl (y_fa fld_142_5 rfl) rfl ?_
  refine SPO_p rfl (y_move rfl) rfl ?_
  refine SPO_p rfl (y_nil rfl) rfl ?_
  refine SPO_p rfl (y_fa fld_142_8 rfl) rfl ?_
  refine SPO_h rfl (y_load Tryz.isAgg139 rfl (by repeat (first | exact Cell.amid hpre rfl | exact Cell.head rfl | apply Cell.tail))) rfl ?_
  refine SPO_h rfl (y_load Tryz.isAgg3 rfl (by repeat (first | exact Cell.amid hpre rfl | exact Cell.head rfl | apply Cell.tail))) rfl ?_
  refine SPO_p rfl (y_ia Tryz.underlying139 Tryz.sizeOf149 rfl rfl (by omega)) rfl ?_
  refine SPO_h rfl (y_load Tryz.isAgg149 rfl (by repeat (first | exact hcell _ | apply Cell.tail))) rfl ?_
  refine SPO_p rfl (y_assign rfl) rfl ?_
  refine SPO_nil ?_
  refine thenP_n ?_
  refine SP_seq ?_
  refine SP_draw 13 [(0, 0), (1, 0), (2, 0), (4, 0), (5, 0), (6, 0), (3, 1), (7, 1), (8, 0), (9, 0), (10, 0), (11, 1), (12, 2), (13, 3)] mixed (by kernel_rfl) (fun _ _ _ _ _ h => h) (Part.refl _) ?_
  refine SPO_p rfl (y_move rfl) rfl ?_
  refine SPO_p rfl (y_nil rfl) rfl ?_
  refine SPO_p rfl (y_fa fld_152_4 rfl) rfl ?_
  refine SPO_p rfl (y_move rfl) rfl ?_
  refine SPO_p rfl (y_nil rfl) rfl ?_
  refine SPO_p rfl (y_fa fld_152_4 rfl) rfl ?_
  refine SPO_h rfl (y_load Tryz.isAgg90 rfl (by repeat (first | exact Cell.amid hpre rfl | exact Cell.head rfl | apply Cell.tail))) rfl ?_
  refine SPO_h rfl (y_load Tryz.isAgg90 rfl (by repeat (first | exact Cell.amid hpre rfl | exact Cell.head rfl | apply Cell.tail))) rfl ?_
  refine SPO_p rfl (y_len_l Tryz.underlying90 rfl) rfl ?_
  refine SPO_p rfl (y_sub rfl rfl (by omega)) rfl ?_
  rw [show ((m.ths[c].vals.length : Nat) : Int) - 1 = ((m.ths[c].vals.length - 1 : Nat) : Int) by omega]
  refine SPO_p rfl (y_ia Tryz.underlying90 Tryz.sizeOf42 rfl rfl (by omega)) rfl ?_
  refine SPO_h rfl (y_loads Tryz.isAgg42 Tryz.sizeOf42 rfl rfl (by repeat (first | exact flat_cells valV_len rfl hil | apply Cells.tail))) rfl ?_
  refine SPO_a rfl rfl (SP1_alloc Tryz.zeroValue42 rfl rfl ?_)
  intro b4
  refine ⟨⟨_, (by repeat (first | exact Part.nil _ | (apply Part.cons; with_reducible (first | exact P0 | exact P1 | exact P2 | exact P3 | exact P4 | exact P5 | exact P6 | exact P7 | exact P8 | exact P9 | exact P10 | exact P11 | exact P12 | exact P13 | exact P14 | exact P15 | exact P16 | exact P17 | exact P18 | exact P19 | exact P20 | exact P21 | exact P22 | exact P23)) | (apply Part.flat; simp only [List.cons_append, List.nil_append]) | (apply Part.cons; (first | exact P0 | exact P1 | exact P2 | exact P3 | exact P4 | exact P5 | exact P6 | exact P7 | exact P8 | exact P9 | exact P10 | exact P11 | exact P12 | exact P13 | exact P14 | exact P15 | exact P16 | exact P17 | exact P18 | exact P19 | exact P20 | exact P21 | exact P22 | exact P23)) | (apply Part.nilc)))⟩, ?_⟩
  refine SPO_z (k := 0) rfl rfl (SP1_storeAll Tryz.sizeOf42 rfl rfl rfl rfl rfl (by first | exact U0 | exact U1 | exact U2 | exact U3 | exact U4 | exact U5 | exact U6 | exact U7 | exact U8 | exact U9 | exact U10 | exact U11 | exact U12 | exact U13 | exact U14 | exact U15 | exact U16 | exact U17 | exact U18 | exact U19 | exact U20 | exact U21 | exact U22 | exact U23) (by rfl) ?_)
  refine SPO_nil ?_
  refine thenP_n ?_
  refine SP_seq ?_
  refine SP_draw 14 [(0, 0), (1, 0), (2, 0), (3, 0), (5, 0), (6, 0), (7, 0), (4, 1), (8, 1), (9, 0), (10, 0), (11, 0), (12, 0), (13, 0), (14, 3)] mixed (by kernel_rfl) (fun _ _ _ _ _ h => h) (Part.refl _) ?_
  refine SPO_p rfl (y_move rfl) rfl ?_
  refine SPO_p rfl (y_move rfl) rfl ?_
  refine SPO_p rfl (y_nil rfl) rfl ?_
  refine SPO_p rfl (y_fa fld_152_4 rfl) rfl ?_
  refine SPO_p rfl (y_move rfl) rfl ?_
  refine SPO_p rfl (y_nil rfl) rfl ?_
  refine SPO_p rfl (y_fa fld_152_4 rfl) rfl ?_
  refine SPO_h rfl (y_load Tryz.isAgg90 rfl (by repeat (first | exact Cell.amid hpre rfl | exact Cell.head rfl | apply Cell.tail))) rfl ?_
  refine SPO_h rfl (y_load Tryz.isAgg90 rfl (by repeat (first | exact Cell.amid hpre rfl | exact Cell.head rfl | apply Cell.tail))) rfl ?_
  refine SPO_p rfl (y_len_l Tryz.underlying90 rfl) rfl ?_
  refine SPO_p rfl (y_sub rfl rfl (by omega)) rfl ?_
  rw [show ((m.ths[c].vals.length : Nat) : Int) - 1 = ((m.ths[c].vals.length - 1 : Nat) : Int) by omega]
  refine SPO_p rfl (y_cut hVA Tryz.underlying90 Tryz.sizeOf42 rfl rfl (by omega)) rfl ?_
  refine SPO_p rfl (y_nil rfl) rfl ?_
  refine SPO_p rfl (y_fa fld_152_4 rfl) rfl ?_
  refine SPO_z (k := 0) rfl rfl (SP1_store Tryz.sizeOf90 rfl rfl rfl (by first | exact U0 | exact U1 | exact U2 | exact U3 | exact U4 | exact U5 | exact U6 | exact U7 | exact U8 | exact U9 | exact U10 | exact U11 | exact U12 | exact U13 | exact U14 | exact U15 | exact U16 | exact U17 | exact U18 | exact U19 | exact U20 | exact U21 | exact U22 | exact U23) (by rfl) ?_)
  refine SPO_nil ?_
  refine thenP_n ?_
  refine SP_seq ?_
  refine SP_region ?_
  refine SPL_y (y_loads Tryz.isAgg42 Tryz.sizeOf42 rfl rfl (by repeat (first | exact Cells.all _ | exact Cells.amid hpre rfl (by decide) | exact Cells.head rfl | apply Cells.tail))) rfl ?_
  refine SPL_one rfl (SP1_storeAll Tryz.sizeOf42 rfl rfl rfl rfl rfl (by first | exact U0 | exact U1 | exact U2 | exact U3 | exact U4 | exact U5 | exact U6 | exact U7 | exact U8 | exact U9 | exact U10 | exact U11 | exact U12 | exact U13 | exact U14 | exact U15 | exact U16 | exact U17 | exact U18 | exact U19 | exact U20 | exact U21 | exact U22 | exact U23) (by rfl) ?_)
  refine SPL_nil ?_
  refine thenP_n ?_
  refine SP_ret ?_
  refine bodyP_ret (H' := [List.flatten [blk x.b 142 [ptr x.nb, ptr x.tb, Value.slice x.na m.nodes.length x.nc, I m.root, Value.slice ca m.clos.length cc, Value.slice (some ⟨hk, 0, none⟩) m.ths.length hc', I s0, I s1, I s2, I s3, I s4, I m.sp, I (c : Int), I m.fuel, I m.first, S m.out, .bool m.done, I m.ans.e, I m.ans.n, I m.ans.m, S m.ans.s, S m.ans.t], sX, blk hk 149 (hb.map ptr ++ hsp), sA, List.flatten [blk (hb.getD c 0) 152 [I m.ths[c].st, I m.ths[c].fn, I (m.ths[c].depth), Value.slice ta (m.ths[c].tasks.length) tc, Value.slice (some ⟨vk, 0, none⟩) (m.ths[c].vals.length - 1) vc], sa, (blk vk 42 (m.ths[c].vals.flatMap valV ++ vsp))], sZ, R]]) (ResC rfl rfl Tryz.isAgg42 Tryz.sizeOf42 rfl (by repeat (first | exact Cells.all _ | exact Cells.amid hpre rfl (by decide) | exact Cells.head rfl | apply Cells.tail))) (by repeat (first | exact Part.nil _ | (apply Part.cons; with_reducible (first | exact P0 | exact P1 | exact P2 | exact P3 | exact P4 | exact P5 | exact P6 | exact P7 | exact P8 | exact P9 | exact P10 | exact P11 | exact P12 | exact P13 | exact P14 | exact P15 | exact P16 | exact P17 | exact P18 | exact P19 | exact P20 | exact P21 | exact P22 | exact P23)) | (apply Part.flat; simp only [List.cons_append, List.nil_append]) | (apply Part.cons; (first | exact P0 | exact P1 | exact P2 | exact P3 | exact P4 | exact P5 | exact P6 | exact P7 | exact P8 | exact P9 | exact P10 | exact P11 | exact P12 | exact P13 | exact P14 | exact P15 | exact P16 | exact P17 | exact P18 | exact P19 | exact P20 | exact P21 | exact P22 | exact P23)) | (apply Part.nilc))) ?_
  refine ⟨by rw [hth, getD_last hil], _, hput (rset m { thG m with vals := (thG m).vals.take ((thG m).vals.length - 1) }) s0 s1 s2 s3 s4 ({ m.ths[c] with vals := m.ths[c].vals.take (m.ths[c].vals.length - 1) }) ta tc (some ⟨vk, 0, none⟩) vc sa (blk vk 42 (m.ths[c].vals.flatMap valV ++ vsp)) (m.ths[c].tasks.length) (m.ths[c].vals.length - 1) rfl rfl rfl ?_ rfl rfl hstk rfl (by simp) (hTA) ((by have := hVA.cut (j := m.ths[c].vals.length - 1) (by omega); rwa [flat_tk1 valV_len] at this)) (hTS), ?_⟩
  · unfold rset; rw [thG_eq hcc hc, hcc]; rfl
  · rw [← hcc]; rfl

theorem cm_do (x : RX) (eb hb : List Nat) {m m' : RnM} {k n y : Int} {e : Option Nat} (hP : rdo k n y e m = some m') (s : Seg) (hM : isRm x eb hb m s) : Spec Tryz.prog 95 [ptr x.b, I k, I n, I y, ePt eb e] [s] (Ret fun v H => v = .tuple #[] ∧ ∃ s', isRm x eb hb m' s' ∧ H = [s']) := by
  unfold rdo at hP
  have hg : curOk m ∧ (thG m).tasks.length ≤ 1000000 ∧ (∀ i, e = some i → i < m.envs.length) := Decidable.byContradiction fun q => by rw [if_neg q] at hP; cases hP
  rw [if_pos hg] at hP
  injection hP with hP
  subst hP
  obtain ⟨⟨hq1, hq2⟩, hq3, hq4⟩ := hg
  obtain ⟨c, hcc⟩ : ∃ c : Nat, m.cur = c := ⟨m.cur.toNat, by omega⟩
  have hc : c < m.ths.length := by omega
  have hel := hM.sc.el
  have hth := thG_eq hcc hc
  rw [hth] at hq3
  obtain ⟨ca, cc, hk, hc', hsp, s0, s1, s2, s3, s4, sX, sA, sZ, R, ta, tc, va, vc, sa, sv, rfl, hstk, hhl, hTA, hVA, hTS, hput⟩ := isRm_open hM hc
  refine Spec_openAt [blk x.b 142 [ptr x.nb, ptr x.tb, Value.slice x.na m.nodes.length x.nc, I m.root, Value.slice ca m.clos.length cc, Value.slice (some ⟨hk, 0, none⟩) m.ths.length hc', I s0, I s1, I s2, I s3, I s4, I m.sp, I m.cur, I m.fuel, I m.first, S m.out, .bool m.done, I m.ans.e, I m.ans.n, I m.ans.m, S m.ans.s, S m.ans.t], sX, blk hk 149 (hb.map ptr ++ hsp), sA, List.flatten [blk (hb.getD c 0) 152 [I m.ths[c].st, I m.ths[c].fn, I (m.ths[c].depth), Value.slice ta (m.ths[c].tasks.length) tc, Value.slice va (m.ths[c].vals.length) vc], sa, sv], sZ, R] (by first | exact P0 | exact P1 | exact P2 | exact P3 | exact P4 | exact P5 | exact P6 | exact P7 | exact P8 | exact P9 | exact P10 | exact P11 | exact P12 | exact P13 | exact P14 | exact P15 | exact P16 | exact P17 | exact P18 | exact P19 | exact P20 | exact P21 | exact P22 | exact P23) ?_
  simp only [List.cons_append, List.nil_append]
  refine Spec_openAt [blk (hb.getD c 0) 152 [I m.ths[c].st, I m.ths[c].fn, I (m.ths[c].depth), Value.slice ta (m.ths[c].tasks.length) tc, Value.slice va (m.ths[c].vals.length) vc], sa, sv] (by first | exact P0 | exact P1 | exact P2 | exact P3 | exact P4 | exact P5 | exact P6 | exact P7 | exact P8 | exact P9 | exact P10 | exact P11 | exact P12 | exact P13 | exact P14 | exact P15 | exact P16 | exact P17 | exact P18 | exact P19 | exact P20 | exact P21 | exact P22 | exact P23) ?_
  simp only [List.cons_append, List.nil_append]
  have hcell : ∀ H : Hp, Cell (blk hk 149 (hb.map ptr ++ hsp) :: H) hk (0 + ((c : Nat) : Int).toNat * 1) (ptr (hb.getD c 0)) := fun H => Cell.head (hb_at hhl hc)
  rw [hcc]
  refine Spec_enter Tryz.func95 rfl Tryz.ntmps95 rfl ?_
  show SP _ _ _ _ _ [(0, _), (1, _), (2, _), (3, _), (4, _)] _
  refine SP_seq ?_
  refine SP_draw 999 [(0, 0), (1, 0), (2, 0), (4, 0), (5, 0), (6, 0), (3, 1), (7, 1), (8, 0), (9, 1), (10, 0)] mixed (by kernel_rfl) (fun _ _ _ _ _ h => h) (Part.refl _) ?_
  refine SPO_p rfl (y_move rfl) rfl ?_
  refine SPO_p rfl (y_nil rfl) rfl ?_
  refine SPO_p rfl (y_fa fld_142_5 rfl) rfl ?_
  refine SPO_p rfl (y_move rfl) rfl ?_
  refine SPO_p rfl (y_nil rfl) rfl ?_
  refine SPO_p rfl (y_fa fld_142_8 rfl) rfl ?_
  refine SPO_h rfl (y_load Tryz.isAgg139 rfl (by repeat (first | exact Cell.amid hpre rfl | exact Cell.head rfl | apply Cell.tail))) rfl ?_
  refine SPO_h rfl (y_load Tryz.isAgg3 rfl (by repeat (first | exact Cell.amid hpre rfl | exact Cell.head rfl | apply Cell.tail))) rfl ?_
  refine SPO_p rfl (y_ia Tryz.underlying139 Tryz.sizeOf149 rfl rfl (by omega)) rfl ?_
  refine SPO_h rfl (y_load Tryz.isAgg149 rfl (by repeat (first | exact hcell _ | apply Cell.tail))) rfl ?_
  refine SPO_p rfl (y_assign rfl) rfl ?_
  refine SPO_nil ?_
  refine thenP_n ?_
  refine SP_region ?_
  refine SPL_y (y_move rfl) rfl ?_
  refine SPL_y (y_move rfl) rfl ?_
  refine SPL_y (y_nil rfl) rfl ?_
  refine SPL_y (y_fa fld_152_3 rfl) rfl ?_
  refine SPL_y (y_load Tryz.isAgg150 rfl (by repeat (first | exact Cell.amid hpre rfl | exact Cell.head rfl | apply Cell.tail))) rfl ?_
  refine SPL_y (y_move rfl) rfl ?_
  refine SPL_y (y_move rfl) rfl ?_
  refine SPL_y (y_move rfl) rfl ?_
  refine SPL_y (y_move rfl) rfl ?_
  refine SPL_y (y_build B206 rfl rfl (by simp only [fillL, List.foldl_cons, List.foldl_nil, List.set_cons_zero, List.set_cons_succ]; exact rfl)) rfl ?_
  refine SPL_one rfl (SP1_slice1 el_150 rfl rfl rfl rfl rfl ?_)
  intro b31
  refine SPL_one rfl (SP1_append el_150 (.inl Tryz.underlying150) rfl rfl hTA (by first | exact P0 | exact P1 | exact P2 | exact P3 | exact P4 | exact P5 | exact P6 | exact P7 | exact P8 | exact P9 | exact P10 | exact P11 | exact P12 | exact P13 | exact P14 | exact P15 | exact P16 | exact P17 | exact P18 | exact P19 | exact P20 | exact P21 | exact P22 | exact P23) (Src.of (by repeat (first | exact Cells.all _ | exact Cells.amid hpre rfl (by decide) | exact Cells.head rfl | apply Cells.tail)) (by rfl)) (by rfl) (by omega) rfl ?_)
  intro ta' tc' sa' hTA2
  refine SPL_y (y_nil rfl) rfl ?_
  refine SPL_y (y_fa fld_152_3 rfl) rfl ?_
  refine SPL_one rfl (SP1_store Tryz.sizeOf150 rfl rfl rfl (by first | exact U0 | exact U1 | exact U2 | exact U3 | exact U4 | exact U5 | exact U6 | exact U7 | exact U8 | exact U9 | exact U10 | exact U11 | exact U12 | exact U13 | exact U14 | exact U15 | exact U16 | exact U17 | exact U18 | exact U19 | exact U20 | exact U21 | exact U22 | exact U23) (by rfl) ?_)
  refine SPL_nil ?_
  refine bodyP_end (H' := [List.flatten [blk x.b 142 [ptr x.nb, ptr x.tb, Value.slice x.na m.nodes.length x.nc, I m.root, Value.slice ca m.clos.length cc, Value.slice (some ⟨hk, 0, none⟩) m.ths.length hc', I s0, I s1, I s2, I s3, I s4, I m.sp, I (c : Int), I m.fuel, I m.first, S m.out, .bool m.done, I m.ans.e, I m.ans.n, I m.ans.m, S m.ans.s, S m.ans.t], sX, blk hk 149 (hb.map ptr ++ hsp), sA, List.flatten [blk (hb.getD c 0) 152 [I m.ths[c].st, I m.ths[c].fn, I (m.ths[c].depth), Value.slice ta' (m.ths[c].tasks.length + 1) tc', Value.slice va (m.ths[c].vals.length) vc], sa', sv], sZ, R]]) (Res0 rfl) (by repeat (first | exact Part.nil _ | (apply Part.cons; with_reducible (first | exact P0 | exact P1 | exact P2 | exact P3 | exact P4 | exact P5 | exact P6 | exact P7 | exact P8 | exact P9 | exact P10 | exact P11 | exact P12 | exact P13 | exact P14 | exact P15 | exact P16 | exact P17 | exact P18 | exact P19 | exact P20 | exact P21 | exact P22 | exact P23)) | (apply Part.flat; simp only [List.cons_append, List.nil_append]) | (apply Part.cons; (first | exact P0 | exact P1 | exact P2 | exact P3 | exact P4 | exact P5 | exact P6 | exact P7 | exact P8 | exact P9 | exact P10 | exact P11 | exact P12 | exact P13 | exact P14 | exact P15 | exact P16 | exact P17 | exact P18 | exact P19 | exact P20 | exact P21 | exact P22 | exact P23)) | (apply Part.nilc))) ?_
  refine ⟨rfl, _, hput (rset m { thG m with tasks := (thG m).tasks ++ [⟨k, n, y, e⟩] }) s0 s1 s2 s3 s4 ({ m.ths[c] with tasks := m.ths[c].tasks ++ [⟨k, n, y, e⟩] }) ta' tc' va vc sa' sv (m.ths[c].tasks.length + 1) (m.ths[c].vals.length) rfl rfl rfl ?_ rfl rfl hstk (by simp) rfl (by simpa [tskV] using hTA2) (hVA) (fun q hq => by rcases List.mem_append.1 hq with hq | hq; exact hTS q hq; rw [List.mem_singleton.1 hq]; intro i hi; rw [hel]; exact hq4 i hi), ?_⟩
  · unfold rset; rw [thG_eq hcc hc, hcc]; rfl
  · rw [← hcc]; rfl

end Go.Sl
