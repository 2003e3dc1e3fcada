/- Walks: package compm: throw, ret (made by program out of short notes) -/
import Derived.Test.Qxb6500573aGreatDoorWCmB
namespace Go.Sl
open Go Go.Wl Go.Proofs
open Go.Nm
set_option maxRecDepth 100000
set_option linter.unusedVariables false
set_option linter.unusedSimpArgs false
theorem unw_snoc (l0 : List TkM) (q : TkM) (d : Int) : unwP (l0 ++ [q]).reverse d = if q.k = 3 then (if q.n = 1 then (some (q, l0.reverse), d - 1) else unwP l0.reverse (d - 1)) else unwP l0.reverse d := by
  rw [List.reverse_append]; rfl
theorem ret_snoc (l0 : List TkM) (q : TkM) : retP (l0 ++ [q]).reverse = if q.k ≠ 3 then retP l0.reverse else some (q, l0.reverse) := by
  rw [List.reverse_append]; rfl
theorem arr_snoc {eb : List Nat} {tk tc : Nat} {l0 : List TkM} {q : TkM} {tsp : List Value} (h : Arr 206 4 (some ⟨tk, 0, none⟩) (l0.length + 1) tc ((l0 ++ [q]).flatMap (tskV eb)) (blk tk 206 ((l0 ++ [q]).flatMap (tskV eb) ++ tsp))) : Arr 206 4 (some ⟨tk, 0, none⟩) l0.length tc (l0.flatMap (tskV eb)) (blk tk 206 ((l0 ++ [q]).flatMap (tskV eb) ++ tsp)) := by
  have := h.cut (j := l0.length) (by omega)
  rw [flat_tk1 (tskV_len eb)] at this
  simpa using this
theorem cm_throw (x : RX) (eb hb : List Nat) {m m' : RnM} (v : V) (hP : rthrow v m = some m') (s : Seg) (hM : isRm x eb hb m s) : Spec Tryz.prog 160 [ptr x.b, .agg (valV v).toArray] [s] (Ret fun v H => v = .tuple #[] ∧ ∃ s', isRm x eb hb m' s' ∧ H = [s']) := by
  unfold rthrow at hP
  have hg : curOk m ∧ (thG m).tasks.length ≤ 1000000 ∧ (thG m).vals.length ≤ 1000000 ∧ (-1000000000 ≤ (thG m).depth ∧ (thG m).depth ≤ 1000000000) := Decidable.byContradiction fun q => by rw [if_pos q] at hP; cases hP
  rw [if_neg (fun q => q hg)] at hP
  obtain ⟨⟨hq1, hq2⟩, hq3, hq4, hq5⟩ := hg
  obtain ⟨c, hcc⟩ : ∃ c : Nat, m.cur = c := ⟨m.cur.toNat, by omega⟩
  have hc : c < m.ths.length := by omega
  have hth := thG_eq hcc hc
  rw [hth] at hq3 hq4 hq5 hP
  obtain ⟨ca, cc, hk, hc', hsp, s0, s1, s2, s3, s4, sX, sA, sZ, R, ta, tc, va, vc, sa, sv, rfl, hstk, hhl, hTA, hVA, hTS, hput⟩ := isRm_open hM hc
  refine Spec_openAt [blk x.b 142 [ptr x.nb, ptr x.tb, Value.slice x.na m.nodes.length x.nc, I m.root, Value.slice ca m.clos.length cc, Value.slice (some ⟨hk, 0, none⟩) m.ths.length hc', I s0, I s1, I s2, I s3, I s4, I m.sp, I m.cur, I m.fuel, I m.first, S m.out, .bool m.done, I m.ans.e, I m.ans.n, I m.ans.m, S m.ans.s, S m.ans.t], sX, blk hk 149 (hb.map ptr ++ hsp), sA, List.flatten [blk (hb.getD c 0) 152 [I m.ths[c].st, I m.ths[c].fn, I (m.ths[c].depth), Value.slice ta (m.ths[c].tasks.length) tc, Value.slice va (m.ths[c].vals.length) vc], sa, sv], sZ, R] (by first | exact P0 | exact P1 | exact P2 | exact P3 | exact P4 | exact P5 | exact P6 | exact P7 | exact P8 | exact P9 | exact P10 | exact P11 | exact P12 | exact P13 | exact P14 | exact P15 | exact P16 | exact P17 | exact P18 | exact P19 | exact P20 | exact P21 | exact P22 | exact P23) ?_
  simp only [List.cons_append, List.nil_append]
  refine Spec_openAt [blk (hb.getD c 0) 152 [I m.ths[c].st, I m.ths[c].fn, I (m.ths[c].depth), Value.slice ta (m.ths[c].tasks.length) tc, Value.slice va (m.ths[c].vals.length) vc], sa, sv] (by first | exact P0 | exact P1 | exact P2 | exact P3 | exact P4 | exact P5 | exact P6 | exact P7 | exact P8 | exact P9 | exact P10 | exact P11 | exact P12 | exact P13 | exact P14 | exact P15 | exact P16 | exact P17 | exact P18 | exact P19 | exact P20 | exact P21 | exact P22 | exact P23) ?_
  simp only [List.cons_append, List.nil_append]
  have hcell : ∀ H : Hp, Cell (blk hk 149 (hb.map ptr ++ hsp) :: H) hk (0 + ((c : Nat) : Int).toNat * 1) (ptr (hb.getD c 0)) := fun H => Cell.head (hb_at hhl hc)
  rw [hcc]
  refine Spec_enter Tryz.func160 rfl Tryz.ntmps160 rfl ?_
  show SP _ _ _ _ _ [(0, _), (1, _)] _
  refine SP_seq ?_
  refine SP_region ?_
  refine SPL_one rfl (SP1_box rfl rfl rfl ?_)
  intro b3
  refine SPL_nil ?_
  refine thenP_n ?_
  refine SP_seq ?_
  refine SP_draw 999 [(0, 0), (1, 0), (2, 0), (4, 0), (5, 0), (6, 0), (3, 1), (7, 1), (8, 0), (9, 1), (10, 0)] mixed (by kernel_rfl) (fun _ _ _ _ _ h => h) (Part.refl _) ?_
  refine SPO_p rfl (y_move rfl) rfl ?_
  refine SPO_p rfl (y_nil rfl) rfl ?_
  refine SPO_p rfl (y_fa fld_142_5 rfl) rfl ?_
  refine SPO_p rfl (y_move rfl) rfl ?_
  refine SPO_p rfl (y_nil rfl) rfl ?_
  refine SPO_p rfl (y_fa fld_142_8 rfl) rfl ?_
  refine SPO_h rfl (y_load Tryz.isAgg139 rfl (by repeat (first | exact Cell.amid hpre rfl | exact Cell.head rfl | apply Cell.tail))) rfl ?_
  refine SPO_h rfl (y_load Tryz.isAgg3 rfl (by repeat (first | exact Cell.amid hpre rfl | exact Cell.head rfl | apply Cell.tail))) rfl ?_
  refine SPO_p rfl (y_ia Tryz.underlying139 Tryz.sizeOf149 rfl rfl (by omega)) rfl ?_
  refine SPO_h rfl (y_load Tryz.isAgg149 rfl (by repeat (first | exact hcell _ | apply Cell.tail))) rfl ?_
  refine SPO_p rfl (y_assign rfl) rfl ?_
  refine SPO_nil ?_
  refine thenP_n ?_
  refine SP_seq ?_
  refine SP_block ?_
  refine SP_loop (G := List TkM × Int) (fun g => g.1.length) (fun g => [(0, ptr x.b), (3, ptr b3), (4, ptr (hb.getD c 0))]) (fun g => [blk x.b 142 [ptr x.nb, ptr x.tb, Value.slice x.na m.nodes.length x.nc, I m.root, Value.slice ca m.clos.length cc, Value.slice (some ⟨hk, 0, none⟩) m.ths.length hc', I s0, I s1, I s2, I s3, I s4, I m.sp, I (c : Int), I m.fuel, I m.first, S m.out, .bool m.done, I m.ans.e, I m.ans.n, I m.ans.m, S m.ans.s, S m.ans.t], sX, blk hk 149 (hb.map ptr ++ hsp), sA, blk (hb.getD c 0) 152 [I m.ths[c].st, I m.ths[c].fn, I (g.2), Value.slice ta (g.1.length) tc, Value.slice va (m.ths[c].vals.length) vc], sa, sv, sZ, R, blk b3 42 (valV v)]) (fun g => Arr 206 4 ta g.1.length tc (g.1.flatMap (tskV eb)) sa ∧ (∀ q, q ∈ g.1 → eIn eb.length q.e) ∧ g.1.length ≤ 1000000 ∧ (m.ths[c].depth - (m.ths[c].tasks.length - g.1.length) ≤ g.2 ∧ g.2 ≤ m.ths[c].depth) ∧ g.1.length ≤ m.ths[c].tasks.length ∧ unwP m.ths[c].tasks.reverse m.ths[c].depth = unwP g.1.reverse g.2) ((m.ths[c].tasks, m.ths[c].depth)) (⟨hTA, hTS, hq3, ⟨by dsimp only; omega, by dsimp only; omega⟩, by dsimp only; omega, rfl⟩) (by repeat (first | exact Sub.nil _ | refine Sub.cons rfl ?_)) (by repeat (first | exact Part.nil _ | (apply Part.cons; with_reducible (first | exact P0 | exact P1 | exact P2 | exact P3 | exact P4 | exact P5 | exact P6 | exact P7 | exact P8 | exact P9 | exact P10 | exact P11 | exact P12 | exact P13 | exact P14 | exact P15 | exact P16 | exact P17 | exact P18 | exact P19 | exact P20 | exact P21 | exact P22 | exact P23)) | (apply Part.flat; simp only [List.cons_append, List.nil_append]) | (apply Part.cons; (first | exact P0 | exact P1 | exact P2 | exact P3 | exact P4 | exact P5 | exact P6 | exact P7 | exact P8 | exact P9 | exact P10 | exact P11 | exact P12 | exact P13 | exact P14 | exact P15 | exact P16 | exact P17 | exact P18 | exact P19 | exact P20 | exact P21 | exact P22 | exact P23)) | (apply Part.nilc))) ?_
  rintro ⟨l, d⟩ ⟨hA, hsc, hll, hdd, hlt, hun⟩
  dsimp only at hA hsc hll hdd hlt hun ⊢
  rw [hun] at hP
  refine SP_seq ?_
  refine SP_seq ?_
  refine SP_region ?_
  refine SPL_y (y_move rfl) rfl ?_
  refine SPL_y (y_nil rfl) rfl ?_
  refine SPL_y (y_fa fld_152_3 rfl) rfl ?_
  refine SPL_y (y_load Tryz.isAgg150 rfl (by repeat (first | exact Cell.amid hpre rfl | exact Cell.head rfl | apply Cell.tail))) rfl ?_
  refine SPL_y (y_len_l Tryz.underlying150 rfl) rfl ?_
  refine SPL_ifn (y_gtr rfl rfl) rfl ?_ ?_
  · intro h2_5
    refine SPL_nil ?_
    refine thenP_n ?_
    refine SP_cond_f rfl ?_
    refine SP_exit ?_
    refine thenP_exit ?_
    refine thenP_exit ?_
    refine inBlockP_hit ?_
    refine thenP_n ?_
    refine SP_seq ?_
    refine SP_region ?_
    refine SPL_y (y_move rfl) rfl ?_
    refine SPL_y (y_nil rfl) rfl ?_
    refine SPL_y (y_fa fld_152_0 rfl) rfl ?_
    refine SPL_one rfl (SP1_store Tryz.sizeOf3 rfl rfl rfl (by first | exact U0 | exact U1 | exact U2 | exact U3 | exact U4 | exact U5 | exact U6 | exact U7 | exact U8 | exact U9 | exact U10 | exact U11 | exact U12 | exact U13 | exact U14 | exact U15 | exact U16 | exact U17 | exact U18 | exact U19 | exact U20 | exact U21 | exact U22 | exact U23) (by rfl) ?_)
    refine SPL_nil ?_
    refine thenP_n ?_
    refine SP_seq ?_
    refine SP_region ?_
    refine SPL_y (y_move rfl) rfl ?_
    refine SPL_y (y_nil rfl) rfl ?_
    refine SPL_y (y_fa fld_152_4 rfl) rfl ?_
    refine SPL_one rfl (SP1_store Tryz.sizeOf90 rfl rfl rfl (by first | exact U0 | exact U1 | exact U2 | exact U3 | exact U4 | exact U5 | exact U6 | exact U7 | exact U8 | exact U9 | exact U10 | exact U11 | exact U12 | exact U13 | exact U14 | exact U15 | exact U16 | exact U17 | exact U18 | exact U19 | exact U20 | exact U21 | exact U22 | exact U23) (by rfl) ?_)
    refine SPL_nil ?_
    refine thenP_n ?_
    obtain rfl : l = [] := List.eq_nil_of_length_eq_zero (by omega)
    rw [show unwP ([] : List TkM).reverse d = (none, d) from rfl] at hP
    dsimp only at hP
    have hM13 : isRm x eb hb (rset m { m.ths[c] with st := 5, depth := d, tasks := [], vals := [] }) (List.flatten [blk x.b 142 [ptr x.nb, ptr x.tb, Value.slice x.na m.nodes.length x.nc, I m.root, Value.slice ca m.clos.length cc, Value.slice (some ⟨hk, 0, none⟩) m.ths.length hc', I s0, I s1, I s2, I s3, I s4, I m.sp, I (c : Int), I m.fuel, I m.first, S m.out, .bool m.done, I m.ans.e, I m.ans.n, I m.ans.m, S m.ans.s, S m.ans.t], sX, blk hk 149 (hb.map ptr ++ hsp), sA, List.flatten [blk (hb.getD c 0) 152 [I 5, I m.ths[c].fn, I (d), Value.slice ta (0) tc, Value.slice none (0) 0], sa, []], sZ, R]) := by
      have := hput (rset m { m.ths[c] with st := 5, depth := d, tasks := [], vals := [] }) s0 s1 s2 s3 s4 ({ m.ths[c] with st := 5, depth := d, tasks := [], vals := [] }) ta tc none 0 sa [] (0) (0) rfl rfl rfl ?_ rfl rfl hstk rfl rfl (hA) (Arr.nil 42 3) ((fun z hz => by cases hz))
      · rw [← hcc]; exact this
      · unfold rset; rw [hcc]; rfl
    refine SP_part (H' := [List.flatten [blk x.b 142 [ptr x.nb, ptr x.tb, Value.slice x.na m.nodes.length x.nc, I m.root, Value.slice ca m.clos.length cc, Value.slice (some ⟨hk, 0, none⟩) m.ths.length hc', I s0, I s1, I s2, I s3, I s4, I m.sp, I (c : Int), I m.fuel, I m.first, S m.out, .bool m.done, I m.ans.e, I m.ans.n, I m.ans.m, S m.ans.s, S m.ans.t], sX, blk hk 149 (hb.map ptr ++ hsp), sA, List.flatten [blk (hb.getD c 0) 152 [I 5, I m.ths[c].fn, I (d), Value.slice ta (0) tc, Value.slice none (0) 0], sa, []], sZ, R], blk b3 42 (valV v)]) (by repeat (first | exact Part.nil _ | (apply Part.cons; with_reducible (first | exact P0 | exact P1 | exact P2 | exact P3 | exact P4 | exact P5 | exact P6 | exact P7 | exact P8 | exact P9 | exact P10 | exact P11 | exact P12 | exact P13 | exact P14 | exact P15 | exact P16 | exact P17 | exact P18 | exact P19 | exact P20 | exact P21 | exact P22 | exact P23)) | (apply Part.flat; simp only [List.cons_append, List.nil_append]) | (apply Part.cons; (first | exact P0 | exact P1 | exact P2 | exact P3 | exact P4 | exact P5 | exact P6 | exact P7 | exact P8 | exact P9 | exact P10 | exact P11 | exact P12 | exact P13 | exact P14 | exact P15 | exact P16 | exact P17 | exact P18 | exact P19 | exact P20 | exact P21 | exact P22 | exact P23)) | (apply Part.nilc))) ?_
    refine SP_region ?_
    refine SPL_y (y_move rfl) rfl ?_
    refine SPL_y (y_loads Tryz.isAgg42 Tryz.sizeOf42 rfl rfl (by repeat (first | exact Cells.all _ | exact Cells.amid hpre rfl (by decide) | exact Cells.head rfl | apply Cells.tail))) rfl ?_
    refine SPL_one rfl (SP1_call (cm_back x eb hb false v hP _ hM13) Tryz.call159 rfl rfl (by repeat (first | exact Part.nil _ | (apply Part.cons; with_reducible (first | exact P0 | exact P1 | exact P2 | exact P3 | exact P4 | exact P5 | exact P6 | exact P7 | exact P8 | exact P9 | exact P10 | exact P11 | exact P12 | exact P13 | exact P14 | exact P15 | exact P16 | exact P17 | exact P18 | exact P19 | exact P20 | exact P21 | exact P22 | exact P23)) | (apply Part.flat; simp only [List.cons_append, List.nil_append]) | (apply Part.cons; (first | exact P0 | exact P1 | exact P2 | exact P3 | exact P4 | exact P5 | exact P6 | exact P7 | exact P8 | exact P9 | exact P10 | exact P11 | exact P12 | exact P13 | exact P14 | exact P15 | exact P16 | exact P17 | exact P18 | exact P19 | exact P20 | exact P21 | exact P22 | exact P23)) | (apply Part.nilc))) ?_)
    rintro v post H' ⟨rfl, sg14, hM14, rfl⟩ hH
    try simp only [List.cons_append, List.nil_append] at hH
    subst hH
    refine SPL_nil ?_
    refine bodyP_end (H' := [sg14]) (Res0 rfl) (by repeat (first | exact Part.nil _ | (apply Part.cons; with_reducible (first | exact P0 | exact P1 | exact P2 | exact P3 | exact P4 | exact P5 | exact P6 | exact P7 | exact P8 | exact P9 | exact P10 | exact P11 | exact P12 | exact P13 | exact P14 | exact P15 | exact P16 | exact P17 | exact P18 | exact P19 | exact P20 | exact P21 | exact P22 | exact P23)) | (apply Part.flat; simp only [List.cons_append, List.nil_append]) | (apply Part.cons; (first | exact P0 | exact P1 | exact P2 | exact P3 | exact P4 | exact P5 | exact P6 | exact P7 | exact P8 | exact P9 | exact P10 | exact P11 | exact P12 | exact P13 | exact P14 | exact P15 | exact P16 | exact P17 | exact P18 | exact P19 | exact P20 | exact P21 | exact P22 | exact P23)) | (apply Part.nilc))) ?_
    exact ⟨rfl, _, hM14, rfl⟩
  intro h2_5
  refine SPL_nil ?_
  refine thenP_n ?_
  refine SP_cond_t rfl ?_
  refine SP_skip ?_
  refine thenP_n ?_
  refine SP_block ?_
  refine SP_seq ?_
  obtain ⟨tk, tsp, rfl, htc, htsp, rfl⟩ := hA.row (by omega)
  obtain ⟨l0, q, rfl⟩ := snoc_of (l := l) (by omega)
  rw [List.length_append] at hA hll hdd hlt ⊢
  simp only [List.length_cons, List.length_nil, Nat.zero_add] at hA hll hdd hlt ⊢
  have hil : l0.length < (l0 ++ [q]).length := by simp
  have hqq : (l0 ++ [q])[l0.length] = q := by simp
  refine SP_draw 13 [(0, 0), (1, 0), (2, 0), (4, 0), (5, 0), (6, 0), (3, 1), (7, 1), (8, 0), (9, 0), (10, 0), (11, 1), (12, 2), (13, 3)] mixed (by kernel_rfl) (fun _ _ _ _ _ h => h) (Part.refl _) ?_
  refine SPO_p rfl (y_move rfl) rfl ?_
  refine SPO_p rfl (y_nil rfl) rfl ?_
  refine SPO_p rfl (y_fa fld_152_3 rfl) rfl ?_
  refine SPO_p rfl (y_move rfl) rfl ?_
  refine SPO_p rfl (y_nil rfl) rfl ?_
  refine SPO_p rfl (y_fa fld_152_3 rfl) rfl ?_
  refine SPO_h rfl (y_load Tryz.isAgg150 rfl (by repeat (first | exact Cell.amid hpre rfl | exact Cell.head rfl | apply Cell.tail))) rfl ?_
  refine SPO_h rfl (y_load Tryz.isAgg150 rfl (by repeat (first | exact Cell.amid hpre rfl | exact Cell.head rfl | apply Cell.tail))) rfl ?_
  refine SPO_p rfl (y_len_l Tryz.underlying150 rfl) rfl ?_
  refine SPO_p rfl (y_sub rfl rfl (by omega)) rfl ?_
  rw [show ((l0.length + 1 : Nat) : Int) - 1 = ((l0.length : Nat) : Int) by omega]
  refine SPO_p rfl (y_ia Tryz.underlying150 Tryz.sizeOf206 rfl rfl (by omega)) rfl ?_
  refine SPO_h rfl (y_loads Tryz.isAgg206 Tryz.sizeOf206 rfl rfl (by repeat (first | exact flat_cellsE (tskV_len eb) rfl hil hqq | apply Cells.tail))) rfl ?_
  refine SPO_a rfl rfl (SP1_alloc Tryz.zeroValue206 rfl rfl ?_)
  intro b5
  refine ⟨⟨_, (by repeat (first | exact Part.nil _ | (apply Part.cons; with_reducible (first | exact P0 | exact P1 | exact P2 | exact P3 | exact P4 | exact P5 | exact P6 | exact P7 | exact P8 | exact P9 | exact P10 | exact P11 | exact P12 | exact P13 | exact P14 | exact P15 | exact P16 | exact P17 | exact P18 | exact P19 | exact P20 | exact P21 | exact P22 | exact P23)) | (apply Part.flat; simp only [List.cons_append, List.nil_append]) | (apply Part.cons; (first | exact P0 | exact P1 | exact P2 | exact P3 | exact P4 | exact P5 | exact P6 | exact P7 | exact P8 | exact P9 | exact P10 | exact P11 | exact P12 | exact P13 | exact P14 | exact P15 | exact P16 | exact P17 | exact P18 | exact P19 | exact P20 | exact P21 | exact P22 | exact P23)) | (apply Part.nilc)))⟩, ?_⟩
  refine SPO_z (k := 0) rfl rfl (SP1_storeAll Tryz.sizeOf206 rfl rfl rfl rfl rfl (by first | exact U0 | exact U1 | exact U2 | exact U3 | exact U4 | exact U5 | exact U6 | exact U7 | exact U8 | exact U9 | exact U10 | exact U11 | exact U12 | exact U13 | exact U14 | exact U15 | exact U16 | exact U17 | exact U18 | exact U19 | exact U20 | exact U21 | exact U22 | exact U23) (by rfl) ?_)
  refine SPO_nil ?_
  refine thenP_n ?_
  refine SP_seq ?_
  refine SP_draw 14 [(0, 0), (1, 0), (2, 0), (3, 0), (5, 0), (6, 0), (7, 0), (4, 1), (8, 1), (9, 0), (10, 0), (11, 0), (12, 0), (13, 0), (14, 3)] mixed (by kernel_rfl) (fun _ _ _ _ _ h => h) (Part.refl _) ?_
  refine SPO_p rfl (y_move rfl) rfl ?_
  refine SPO_p rfl (y_move rfl) rfl ?_
  refine SPO_p rfl (y_nil rfl) rfl ?_
  refine SPO_p rfl (y_fa fld_152_3 rfl) rfl ?_
  refine SPO_p rfl (y_move rfl) rfl ?_
  refine SPO_p rfl (y_nil rfl) rfl ?_
  refine SPO_p rfl (y_fa fld_152_3 rfl) rfl ?_
  refine SPO_h rfl (y_load Tryz.isAgg150 rfl (by repeat (first | exact Cell.amid hpre rfl | exact Cell.head rfl | apply Cell.tail))) rfl ?_
  refine SPO_h rfl (y_load Tryz.isAgg150 rfl (by repeat (first | exact Cell.amid hpre rfl | exact Cell.head rfl | apply Cell.tail))) rfl ?_
  refine SPO_p rfl (y_len_l Tryz.underlying150 rfl) rfl ?_
  refine SPO_p rfl (y_sub rfl rfl (by omega)) rfl ?_
  rw [show ((l0.length + 1 : Nat) : Int) - 1 = ((l0.length : Nat) : Int) by omega]
  refine SPO_p rfl (y_cut hA Tryz.underlying150 Tryz.sizeOf206 rfl rfl (by omega)) rfl ?_
  refine SPO_p rfl (y_nil rfl) rfl ?_
  refine SPO_p rfl (y_fa fld_152_3 rfl) rfl ?_
  refine SPO_z (k := 0) rfl rfl (SP1_store Tryz.sizeOf150 rfl rfl rfl (by first | exact U0 | exact U1 | exact U2 | exact U3 | exact U4 | exact U5 | exact U6 | exact U7 | exact U8 | exact U9 | exact U10 | exact U11 | exact U12 | exact U13 | exact U14 | exact U15 | exact U16 | exact U17 | exact U18 | exact U19 | exact U20 | exact U21 | exact U22 | exact U23) (by rfl) ?_)
  refine SPO_nil ?_
  refine thenP_n ?_
  refine SP_seq ?_
  refine SP_region ?_
  refine SPL_y (y_fa fld_206_0 rfl) rfl ?_
  refine SPL_y (y_load Tryz.isAgg3 rfl (by repeat (first | exact Cell.amid hpre rfl | exact Cell.head rfl | apply Cell.tail))) rfl ?_
  refine SPL_ifn (y_eql rfl rfl) rfl ?_ ?_
  · intro h5_2
    refine SPL_nil ?_
    refine thenP_n ?_
    refine SP_cond_f rfl ?_
    refine SP_skip ?_
    refine inBlockP_n ?_
    refine thenP_n ?_
    exact Again.intro ((l0, d)) (⟨arr_snoc hA, fun z hz => hsc z (List.mem_append_left _ hz), by dsimp only; omega, ⟨by dsimp only; omega, by dsimp only; omega⟩, by dsimp only; omega, by rw [hun, unw_snoc, if_neg h5_2]⟩) (by dsimp only; simp) (by repeat (first | exact Sub.nil _ | refine Sub.cons rfl ?_)) (by repeat (first | exact Part.nil _ | (apply Part.cons; with_reducible (first | exact P0 | exact P1 | exact P2 | exact P3 | exact P4 | exact P5 | exact P6 | exact P7 | exact P8 | exact P9 | exact P10 | exact P11 | exact P12 | exact P13 | exact P14 | exact P15 | exact P16 | exact P17 | exact P18 | exact P19 | exact P20 | exact P21 | exact P22 | exact P23)) | (apply Part.flat; simp only [List.cons_append, List.nil_append]) | (apply Part.cons; (first | exact P0 | exact P1 | exact P2 | exact P3 | exact P4 | exact P5 | exact P6 | exact P7 | exact P8 | exact P9 | exact P10 | exact P11 | exact P12 | exact P13 | exact P14 | exact P15 | exact P16 | exact P17 | exact P18 | exact P19 | exact P20 | exact P21 | exact P22 | exact P23)) | (apply Part.nilc)))
  intro h5_2
  refine SPL_nil ?_
  refine thenP_n ?_
  refine SP_cond_t rfl ?_
  refine SP_seq ?_
  refine SP_region ?_
  refine SPL_y (y_move rfl) rfl ?_
  refine SPL_y (y_nil rfl) rfl ?_
  refine SPL_y (y_fa fld_152_2 rfl) rfl ?_
  refine SPL_y (y_load Tryz.isAgg3 rfl (by repeat (first | exact Cell.amid hpre rfl | exact Cell.head rfl | apply Cell.tail))) rfl ?_
  refine SPL_y (y_sub rfl rfl (by omega)) rfl ?_
  refine SPL_y (y_nil rfl) rfl ?_
  refine SPL_y (y_fa fld_152_2 rfl) rfl ?_
  refine SPL_one rfl (SP1_store Tryz.sizeOf3 rfl rfl rfl (by first | exact U0 | exact U1 | exact U2 | exact U3 | exact U4 | exact U5 | exact U6 | exact U7 | exact U8 | exact U9 | exact U10 | exact U11 | exact U12 | exact U13 | exact U14 | exact U15 | exact U16 | exact U17 | exact U18 | exact U19 | exact U20 | exact U21 | exact U22 | exact U23) (by rfl) ?_)
  refine SPL_nil ?_
  refine thenP_n ?_
  refine SP_seq ?_
  refine SP_region ?_
  refine SPL_y (y_fa fld_206_1 rfl) rfl ?_
  refine SPL_y (y_load Tryz.isAgg3 rfl (by repeat (first | exact Cell.amid hpre rfl | exact Cell.head rfl | apply Cell.tail))) rfl ?_
  refine SPL_ifn (y_eql rfl rfl) rfl ?_ ?_
  · intro h7_2
    refine SPL_nil ?_
    refine thenP_n ?_
    refine SP_cond_f rfl ?_
    refine SP_skip ?_
    refine inBlockP_n ?_
    refine thenP_n ?_
    exact Again.intro ((l0, d - 1)) (⟨arr_snoc hA, fun z hz => hsc z (List.mem_append_left _ hz), by dsimp only; omega, ⟨by dsimp only; omega, by dsimp only; omega⟩, by dsimp only; omega, by rw [hun, unw_snoc, if_pos h5_2, if_neg h7_2]⟩) (by dsimp only; simp) (by repeat (first | exact Sub.nil _ | refine Sub.cons rfl ?_)) (by repeat (first | exact Part.nil _ | (apply Part.cons; with_reducible (first | exact P0 | exact P1 | exact P2 | exact P3 | exact P4 | exact P5 | exact P6 | exact P7 | exact P8 | exact P9 | exact P10 | exact P11 | exact P12 | exact P13 | exact P14 | exact P15 | exact P16 | exact P17 | exact P18 | exact P19 | exact P20 | exact P21 | exact P22 | exact P23)) | (apply Part.flat; simp only [List.cons_append, List.nil_append]) | (apply Part.cons; (first | exact P0 | exact P1 | exact P2 | exact P3 | exact P4 | exact P5 | exact P6 | exact P7 | exact P8 | exact P9 | exact P10 | exact P11 | exact P12 | exact P13 | exact P14 | exact P15 | exact P16 | exact P17 | exact P18 | exact P19 | exact P20 | exact P21 | exact P22 | exact P23)) | (apply Part.nilc)))
  intro h7_2
  refine SPL_nil ?_
  refine thenP_n ?_
  refine SP_cond_t rfl ?_
  refine SP_seq ?_
  rw [unw_snoc, if_pos h5_2, if_pos h7_2] at hP
  dsimp only at hP
  rw [List.reverse_reverse] at hP
  have hqx : 0 ≤ q.x ∧ q.x ≤ m.ths[c].vals.length := Decidable.byContradiction fun z => by rw [if_neg z] at hP; cases hP
  rw [if_pos hqx] at hP
  have hvle := hVA.mle
  refine SP_draw 10 [(0, 0), (1, 0), (2, 0), (3, 0), (5, 0), (4, 1), (6, 1), (7, 0), (8, 0), (9, 0), (10, 3)] mixed (by kernel_rfl) (fun _ _ _ _ _ h => h) (Part.refl _) ?_
  refine SPO_p rfl (y_move rfl) rfl ?_
  refine SPO_p rfl (y_move rfl) rfl ?_
  refine SPO_p rfl (y_nil rfl) rfl ?_
  refine SPO_p rfl (y_fa fld_152_4 rfl) rfl ?_
  refine SPO_p rfl (y_fa fld_206_2 rfl) rfl ?_
  refine SPO_h rfl (y_load Tryz.isAgg90 rfl (by repeat (first | exact Cell.amid hpre rfl | exact Cell.head rfl | apply Cell.tail))) rfl ?_
  refine SPO_h rfl (y_load Tryz.isAgg3 rfl (by repeat (first | exact Cell.amid hpre rfl | exact Cell.head rfl | apply Cell.tail))) rfl ?_
  refine SPO_p rfl (y_cut hVA Tryz.underlying90 Tryz.sizeOf42 rfl rfl (by omega)) rfl ?_
  refine SPO_p rfl (y_nil rfl) rfl ?_
  refine SPO_p rfl (y_fa fld_152_4 rfl) rfl ?_
  refine SPO_z (k := 0) rfl rfl (SP1_store Tryz.sizeOf90 rfl rfl rfl (by first | exact U0 | exact U1 | exact U2 | exact U3 | exact U4 | exact U5 | exact U6 | exact U7 | exact U8 | exact U9 | exact U10 | exact U11 | exact U12 | exact U13 | exact U14 | exact U15 | exact U16 | exact U17 | exact U18 | exact U19 | exact U20 | exact U21 | exact U22 | exact U23) (by rfl) ?_)
  refine SPO_nil ?_
  refine thenP_n ?_
  refine SP_seq ?_
  have hM9 : isRm x eb hb (rset m { m.ths[c] with depth := d - 1, tasks := l0, vals := m.ths[c].vals.take q.x.toNat }) (List.flatten [blk x.b 142 [ptr x.nb, ptr x.tb, Value.slice x.na m.nodes.length x.nc, I m.root, Value.slice ca m.clos.length cc, Value.slice (some ⟨hk, 0, none⟩) m.ths.length hc', I s0, I s1, I s2, I s3, I s4, I m.sp, I (c : Int), I m.fuel, I m.first, S m.out, .bool m.done, I m.ans.e, I m.ans.n, I m.ans.m, S m.ans.s, S m.ans.t], sX, blk hk 149 (hb.map ptr ++ hsp), sA, List.flatten [blk (hb.getD c 0) 152 [I m.ths[c].st, I m.ths[c].fn, I (d - 1), Value.slice (some ⟨tk, 0, none⟩) (l0.length) tc, Value.slice va (q.x.toNat) vc], (blk tk 206 ((l0 ++ [q]).flatMap (tskV eb) ++ tsp)), sv], sZ, R]) := by
    have := hput (rset m { m.ths[c] with depth := d - 1, tasks := l0, vals := m.ths[c].vals.take q.x.toNat }) s0 s1 s2 s3 s4 ({ m.ths[c] with depth := d - 1, tasks := l0, vals := m.ths[c].vals.take q.x.toNat }) (some ⟨tk, 0, none⟩) tc va vc (blk tk 206 ((l0 ++ [q]).flatMap (tskV eb) ++ tsp)) sv (l0.length) (q.x.toNat) rfl rfl rfl ?_ rfl rfl hstk rfl (by rw [List.length_take]; omega) (arr_snoc hA) ((by have := hVA.cut (j := q.x.toNat) (by omega); rwa [flat_tk1 valV_len] at this)) (fun z hz => hsc z (List.mem_append_left _ hz))
    · rw [← hcc]; exact this
    · unfold rset; rw [hcc]; rfl
  refine SP_part (H' := [List.flatten [blk x.b 142 [ptr x.nb, ptr x.tb, Value.slice x.na m.nodes.length x.nc, I m.root, Value.slice ca m.clos.length cc, Value.slice (some ⟨hk, 0, none⟩) m.ths.length hc', I s0, I s1, I s2, I s3, I s4, I m.sp, I (c : Int), I m.fuel, I m.first, S m.out, .bool m.done, I m.ans.e, I m.ans.n, I m.ans.m, S m.ans.s, S m.ans.t], sX, blk hk 149 (hb.map ptr ++ hsp), sA, List.flatten [blk (hb.getD c 0) 152 [I m.ths[c].st, I m.ths[c].fn, I (d - 1), Value.slice (some ⟨tk, 0, none⟩) (l0.length) tc, Value.slice va (q.x.toNat) vc], (blk tk 206 ((l0 ++ [q]).flatMap (tskV eb) ++ tsp)), sv], sZ, R], blk b3 42 (valV v)]) (by repeat (first | exact Part.nil _ | (apply Part.cons; with_reducible (first | exact P0 | exact P1 | exact P2 | exact P3 | exact P4 | exact P5 | exact P6 | exact P7 | exact P8 | exact P9 | exact P10 | exact P11 | exact P12 | exact P13 | exact P14 | exact P15 | exact P16 | exact P17 | exact P18 | exact P19 | exact P20 | exact P21 | exact P22 | exact P23)) | (apply Part.flat; simp only [List.cons_append, List.nil_append]) | (apply Part.cons; (first | exact P0 | exact P1 | exact P2 | exact P3 | exact P4 | exact P5 | exact P6 | exact P7 | exact P8 | exact P9 | exact P10 | exact P11 | exact P12 | exact P13 | exact P14 | exact P15 | exact P16 | exact P17 | exact P18 | exact P19 | exact P20 | exact P21 | exact P22 | exact P23)) | (apply Part.nilc))) ?_
  obtain ⟨m10, hq10, hP⟩ := bnd1 hP
  refine SP_region ?_
  refine SPL_y (y_move rfl) rfl ?_
  refine SPL_y (y_build B42 rfl rfl (by simp only [fillL, List.foldl_cons, List.foldl_nil, List.set_cons_zero, List.set_cons_succ]; exact rfl)) rfl ?_
  refine SPL_one rfl (SP1_call (cm_push x eb hb ⟨1, 0, []⟩ hq10 _ hM9) Tryz.call107 rfl rfl (by repeat (first | exact Part.nil _ | (apply Part.cons; with_reducible (first | exact P0 | exact P1 | exact P2 | exact P3 | exact P4 | exact P5 | exact P6 | exact P7 | exact P8 | exact P9 | exact P10 | exact P11 | exact P12 | exact P13 | exact P14 | exact P15 | exact P16 | exact P17 | exact P18 | exact P19 | exact P20 | exact P21 | exact P22 | exact P23)) | (apply Part.flat; simp only [List.cons_append, List.nil_append]) | (apply Part.cons; (first | exact P0 | exact P1 | exact P2 | exact P3 | exact P4 | exact P5 | exact P6 | exact P7 | exact P8 | exact P9 | exact P10 | exact P11 | exact P12 | exact P13 | exact P14 | exact P15 | exact P16 | exact P17 | exact P18 | exact P19 | exact P20 | exact P21 | exact P22 | exact P23)) | (apply Part.nilc))) ?_)
  rintro v post H' ⟨rfl, sg10, hM10, rfl⟩ hH
  try simp only [List.cons_append, List.nil_append] at hH
  subst hH
  refine SPL_nil ?_
  refine thenP_n ?_
  refine SP_seq ?_
  refine SP_region ?_
  refine SPL_y (y_move rfl) rfl ?_
  refine SPL_y (y_loads Tryz.isAgg42 Tryz.sizeOf42 rfl rfl (by repeat (first | exact Cells.all _ | exact Cells.amid hpre rfl (by decide) | exact Cells.head rfl | apply Cells.tail))) rfl ?_
  refine SPL_one rfl (SP1_call (cm_push x eb hb v hP _ hM10) Tryz.call107 rfl rfl (by repeat (first | exact Part.nil _ | (apply Part.cons; with_reducible (first | exact P0 | exact P1 | exact P2 | exact P3 | exact P4 | exact P5 | exact P6 | exact P7 | exact P8 | exact P9 | exact P10 | exact P11 | exact P12 | exact P13 | exact P14 | exact P15 | exact P16 | exact P17 | exact P18 | exact P19 | exact P20 | exact P21 | exact P22 | exact P23)) | (apply Part.flat; simp only [List.cons_append, List.nil_append]) | (apply Part.cons; (first | exact P0 | exact P1 | exact P2 | exact P3 | exact P4 | exact P5 | exact P6 | exact P7 | exact P8 | exact P9 | exact P10 | exact P11 | exact P12 | exact P13 | exact P14 | exact P15 | exact P16 | exact P17 | exact P18 | exact P19 | exact P20 | exact P21 | exact P22 | exact P23)) | (apply Part.nilc))) ?_)
  rintro v post H' ⟨rfl, sg11, hM11, rfl⟩ hH
  try simp only [List.cons_append, List.nil_append] at hH
  subst hH
  refine SPL_nil ?_
  refine thenP_n ?_
  refine SP_ret ?_
  refine inBlockP_ret (thenP_ret (inBlockP_ret (thenP_ret (bodyP_ret (H' := [sg11]) (Res0 rfl) (by repeat (first | exact Part.nil _ | (apply Part.cons; with_reducible (first | exact P0 | exact P1 | exact P2 | exact P3 | exact P4 | exact P5 | exact P6 | exact P7 | exact P8 | exact P9 | exact P10 | exact P11 | exact P12 | exact P13 | exact P14 | exact P15 | exact P16 | exact P17 | exact P18 | exact P19 | exact P20 | exact P21 | exact P22 | exact P23)) | (apply Part.flat; simp only [List.cons_append, List.nil_append]) | (apply Part.cons; (first | exact P0 | exact P1 | exact P2 | exact P3 | exact P4 | exact P5 | exact P6 | exact P7 | exact P8 | exact P9 | exact P10 | exact P11 | exact P12 | exact P13 | exact P14 | exact P15 | exact P16 | exact P17 | exact P18 | exact P19 | exact P20 | exact P21 | exact P22 | exact P23)) | (apply Part.nilc))) ?_))))
  exact ⟨rfl, _, hM11, rfl⟩

theorem cm_raise (x : RX) (eb hb : List Nat) {m m' : RnM} {t : List UInt8} (hP : rraise t m = some m') (s : Seg) (hM : isRm x eb hb m s) : Spec Tryz.prog 104 [ptr x.b, S t] [s] (Ret fun v H => v = .tuple #[] ∧ ∃ s', isRm x eb hb m' s' ∧ H = [s']) := by
  refine Spec_enter Tryz.func104 rfl Tryz.ntmps104 rfl ?_
  show SP _ _ _ _ _ [(0, _), (1, _)] _
  refine SP_region ?_
  refine SPL_y (y_move rfl) rfl ?_
  refine SPL_y (y_move rfl) rfl ?_
  refine SPL_y (y_build B42 rfl rfl (by simp only [fillL, List.foldl_cons, List.foldl_nil, List.set_cons_zero, List.set_cons_succ]; exact rfl)) rfl ?_
  refine SPL_one rfl (SP1_call (cm_throw x eb hb ⟨3, 0, t⟩ hP s hM) Tryz.call160 rfl rfl (by repeat (first | exact Part.nil _ | (apply Part.cons; with_reducible (first | exact P0 | exact P1 | exact P2 | exact P3 | exact P4 | exact P5 | exact P6 | exact P7 | exact P8 | exact P9 | exact P10 | exact P11 | exact P12 | exact P13 | exact P14 | exact P15 | exact P16 | exact P17 | exact P18 | exact P19 | exact P20 | exact P21 | exact P22 | exact P23)) | (apply Part.flat; simp only [List.cons_append, List.nil_append]) | (apply Part.cons; (first | exact P0 | exact P1 | exact P2 | exact P3 | exact P4 | exact P5 | exact P6 | exact P7 | exact P8 | exact P9 | exact P10 | exact P11 | exact P12 | exact P13 | exact P14 | exact P15 | exact P16 | exact P17 | exact P18 | exact P19 | exact P20 | exact P21 | exact P22 | exact P23)) | (apply Part.nilc))) ?_)
  rintro v post H' ⟨rfl, sg2, hM2, rfl⟩ hH
  try simp only [List.cons_append, List.nil_append] at hH
  subst hH
  refine SPL_nil ?_
  refine bodyP_end (H' := [sg2]) (Res0 rfl) (by repeat (first | exact Part.nil _ | (apply Part.cons; with_reducible (first | exact P0 | exact P1 | exact P2 | exact P3 | exact P4 | exact P5 | exact P6 | exact P7 | exact P8 | exact P9 | exact P10 | exact P11 | exact P12 | exact P13 | exact P14 | exact P15 | exact P16 | exact P17 | exact P18 | exact P19 | exact P20 | exact P21 | exact P22 | exact P23)) | (apply Part.flat; simp only [List.cons_append, List.nil_append]) | (apply Part.cons; (first | exact P0 | exact P1 | exact P2 | exact P3 | exact P4 | exact P5 | exact P6 | exact P7 | exact P8 | exact P9 | exact P10 | exact P11 | exact P12 | exact P13 | exact P14 | exact P15 | exact P16 | exact P17 | exact P18 | exact P19 | exact P20 | exact P21 | exact P22 | exact P23)) | (apply Part.nilc))) ?_
  exact ⟨rfl, _, hM2, rfl⟩

theorem cm_ret (x : RX) (eb hb : List Nat) {m m' : RnM} (a b : V) (hP : rret a b m = some m') (s : Seg) (hM : isRm x eb hb m s) : Spec Tryz.prog 98 [ptr x.b, .agg (valV a).toArray, .agg (valV b).toArray] [s] (Ret fun v H => v = .tuple #[] ∧ ∃ s', isRm x eb hb m' s' ∧ H = [s']) := by
  unfold rret at hP
  have hg : curOk m ∧ (thG m).tasks.length ≤ 1000000 ∧ (thG m).vals.length ≤ 1000000 ∧ (-1000000000 ≤ (thG m).depth ∧ (thG m).depth ≤ 1000000000) := Decidable.byContradiction fun q => by rw [if_pos q] at hP; cases hP
  rw [if_neg (fun q => q hg)] at hP
  obtain ⟨⟨hq1, hq2⟩, hq3, hq4, hq5⟩ := hg
  obtain ⟨c, hcc⟩ : ∃ c : Nat, m.cur = c := ⟨m.cur.toNat, by omega⟩
  have hc : c < m.ths.length := by omega
  have hth := thG_eq hcc hc
  rw [hth] at hq3 hq4 hq5 hP
  obtain ⟨ca, cc, hk, hc', hsp, s0, s1, s2, s3, s4, sX, sA, sZ, R, ta, tc, va, vc, sa, sv, rfl, hstk, hhl, hTA, hVA, hTS, hput⟩ := isRm_open hM hc
  refine Spec_openAt [blk x.b 142 [ptr x.nb, ptr x.tb, Value.slice x.na m.nodes.length x.nc, I m.root, Value.slice ca m.clos.length cc, Value.slice (some ⟨hk, 0, none⟩) m.ths.length hc', I s0, I s1, I s2, I s3, I s4, I m.sp, I m.cur, I m.fuel, I m.first, S m.out, .bool m.done, I m.ans.e, I m.ans.n, I m.ans.m, S m.ans.s, S m.ans.t], sX, blk hk 149 (hb.map ptr ++ hsp), sA, List.flatten [blk (hb.getD c 0) 152 [I m.ths[c].st, I m.ths[c].fn, I (m.ths[c].depth), Value.slice ta (m.ths[c].tasks.length) tc, Value.slice va (m.ths[c].vals.length) vc], sa, sv], sZ, R] (by first | exact P0 | exact P1 | exact P2 | exact P3 | exact P4 | exact P5 | exact P6 | exact P7 | exact P8 | exact P9 | exact P10 | exact P11 | exact P12 | exact P13 | exact P14 | exact P15 | exact P16 | exact P17 | exact P18 | exact P19 | exact P20 | exact P21 | exact P22 | exact P23) ?_
  simp only [List.cons_append, List.nil_append]
  refine Spec_openAt [blk (hb.getD c 0) 152 [I m.ths[c].st, I m.ths[c].fn, I (m.ths[c].depth), Value.slice ta (m.ths[c].tasks.length) tc, Value.slice va (m.ths[c].vals.length) vc], sa, sv] (by first | exact P0 | exact P1 | exact P2 | exact P3 | exact P4 | exact P5 | exact P6 | exact P7 | exact P8 | exact P9 | exact P10 | exact P11 | exact P12 | exact P13 | exact P14 | exact P15 | exact P16 | exact P17 | exact P18 | exact P19 | exact P20 | exact P21 | exact P22 | exact P23) ?_
  simp only [List.cons_append, List.nil_append]
  have hcell : ∀ H : Hp, Cell (blk hk 149 (hb.map ptr ++ hsp) :: H) hk (0 + ((c : Nat) : Int).toNat * 1) (ptr (hb.getD c 0)) := fun H => Cell.head (hb_at hhl hc)
  rw [hcc]
  refine Spec_enter Tryz.func98 rfl Tryz.ntmps98 rfl ?_
  show SP _ _ _ _ _ [(0, _), (1, _), (2, _)] _
  refine SP_seq ?_
  refine SP_region ?_
  refine SPL_one rfl (SP1_box rfl rfl rfl ?_)
  intro b4
  refine SPL_one rfl (SP1_box rfl rfl rfl ?_)
  intro b5
  refine SPL_nil ?_
  refine thenP_n ?_
  refine SP_seq ?_
  refine SP_draw 999 [(0, 0), (1, 0), (2, 0), (4, 0), (5, 0), (6, 0), (3, 1), (7, 1), (8, 0), (9, 1), (10, 0)] mixed (by kernel_rfl) (fun _ _ _ _ _ h => h) (Part.refl _) ?_
  refine SPO_p rfl (y_move rfl) rfl ?_
  refine SPO_p rfl (y_nil rfl) rfl ?_
  refine SPO_p rfl (y_fa fld_142_5 rfl) rfl ?_
  refine SPO_p rfl (y_move rfl) rfl ?_
  refine SPO_p rfl (y_nil rfl) rfl ?_
  refine SPO_p rfl (y_fa fld_142_8 rfl) rfl ?_
  refine SPO_h rfl (y_load Tryz.isAgg139 rfl (by repeat (first | exact Cell.amid hpre rfl | exact Cell.head rfl | apply Cell.tail))) rfl ?_
  refine SPO_h rfl (y_load Tryz.isAgg3 rfl (by repeat (first | exact Cell.amid hpre rfl | exact Cell.head rfl | apply Cell.tail))) rfl ?_
  refine SPO_p rfl (y_ia Tryz.underlying139 Tryz.sizeOf149 rfl rfl (by omega)) rfl ?_
  refine SPO_h rfl (y_load Tryz.isAgg149 rfl (by repeat (first | exact hcell _ | apply Cell.tail))) rfl ?_
  refine SPO_p rfl (y_assign rfl) rfl ?_
  refine SPO_nil ?_
  refine thenP_n ?_
  refine SP_block ?_
  refine SP_loop (G := List TkM) (fun l => l.length) (fun l => [(0, ptr x.b), (4, ptr b4), (5, ptr b5), (6, ptr (hb.getD c 0))]) (fun l => [blk x.b 142 [ptr x.nb, ptr x.tb, Value.slice x.na m.nodes.length x.nc, I m.root, Value.slice ca m.clos.length cc, Value.slice (some ⟨hk, 0, none⟩) m.ths.length hc', I s0, I s1, I s2, I s3, I s4, I m.sp, I (c : Int), I m.fuel, I m.first, S m.out, .bool m.done, I m.ans.e, I m.ans.n, I m.ans.m, S m.ans.s, S m.ans.t], sX, blk hk 149 (hb.map ptr ++ hsp), sA, blk (hb.getD c 0) 152 [I m.ths[c].st, I m.ths[c].fn, I (m.ths[c].depth), Value.slice ta (l.length) tc, Value.slice va (m.ths[c].vals.length) vc], sa, sv, sZ, R, blk b4 42 (valV a), blk b5 42 (valV b)]) (fun l => Arr 206 4 ta l.length tc (l.flatMap (tskV eb)) sa ∧ (∀ q, q ∈ l → eIn eb.length q.e) ∧ l.length ≤ 1000000 ∧ retP m.ths[c].tasks.reverse = retP l.reverse) (m.ths[c].tasks) (⟨hTA, hTS, hq3, rfl⟩) (by repeat (first | exact Sub.nil _ | refine Sub.cons rfl ?_)) (by repeat (first | exact Part.nil _ | (apply Part.cons; with_reducible (first | exact P0 | exact P1 | exact P2 | exact P3 | exact P4 | exact P5 | exact P6 | exact P7 | exact P8 | exact P9 | exact P10 | exact P11 | exact P12 | exact P13 | exact P14 | exact P15 | exact P16 | exact P17 | exact P18 | exact P19 | exact P20 | exact P21 | exact P22 | exact P23)) | (apply Part.flat; simp only [List.cons_append, List.nil_append]) | (apply Part.cons; (first | exact P0 | exact P1 | exact P2 | exact P3 | exact P4 | exact P5 | exact P6 | exact P7 | exact P8 | exact P9 | exact P10 | exact P11 | exact P12 | exact P13 | exact P14 | exact P15 | exact P16 | exact P17 | exact P18 | exact P19 | exact P20 | exact P21 | exact P22 | exact P23)) | (apply Part.nilc))) ?_
  rintro l ⟨hA, hsc, hll, hun⟩
  rw [hun] at hP
  refine SP_seq ?_
  refine SP_seq ?_
  refine SP_region ?_
  refine SPL_y (y_move rfl) rfl ?_
  refine SPL_y (y_nil rfl) rfl ?_
  refine SPL_y (y_fa fld_152_3 rfl) rfl ?_
  refine SPL_y (y_load Tryz.isAgg150 rfl (by repeat (first | exact Cell.amid hpre rfl | exact Cell.head rfl | apply Cell.tail))) rfl ?_
  refine SPL_y (y_len_l Tryz.underlying150 rfl) rfl ?_
  refine SPL_ifn (y_gtr rfl rfl) rfl ?_ ?_
  · intro h2_5
    refine SPL_nil ?_
    refine thenP_n ?_
    refine SP_cond_f rfl ?_
    refine SP_exit ?_
    refine thenP_exit ?_
    refine thenP_exit ?_
    refine inBlockP_hit ?_
    refine bodyP_end (H' := [List.flatten [blk x.b 142 [ptr x.nb, ptr x.tb, Value.slice x.na m.nodes.length x.nc, I m.root, Value.slice ca m.clos.length cc, Value.slice (some ⟨hk, 0, none⟩) m.ths.length hc', I s0, I s1, I s2, I s3, I s4, I m.sp, I (c : Int), I m.fuel, I m.first, S m.out, .bool m.done, I m.ans.e, I m.ans.n, I m.ans.m, S m.ans.s, S m.ans.t], sX, blk hk 149 (hb.map ptr ++ hsp), sA, List.flatten [blk (hb.getD c 0) 152 [I m.ths[c].st, I m.ths[c].fn, I (m.ths[c].depth), Value.slice ta (l.length) tc, Value.slice va (m.ths[c].vals.length) vc], sa, sv], sZ, R]]) (Res0 rfl) (by repeat (first | exact Part.nil _ | (apply Part.cons; with_reducible (first | exact P0 | exact P1 | exact P2 | exact P3 | exact P4 | exact P5 | exact P6 | exact P7 | exact P8 | exact P9 | exact P10 | exact P11 | exact P12 | exact P13 | exact P14 | exact P15 | exact P16 | exact P17 | exact P18 | exact P19 | exact P20 | exact P21 | exact P22 | exact P23)) | (apply Part.flat; simp only [List.cons_append, List.nil_append]) | (apply Part.cons; (first | exact P0 | exact P1 | exact P2 | exact P3 | exact P4 | exact P5 | exact P6 | exact P7 | exact P8 | exact P9 | exact P10 | exact P11 | exact P12 | exact P13 | exact P14 | exact P15 | exact P16 | exact P17 | exact P18 | exact P19 | exact P20 | exact P21 | exact P22 | exact P23)) | (apply Part.nilc))) ?_
    have hl0 : l = [] := List.eq_nil_of_length_eq_zero (by omega)
    rw [hl0, show retP ([] : List TkM).reverse = none from rfl] at hP
    injection hP with hP
    subst hP
    refine ⟨rfl, _, hput (rset m { m.ths[c] with tasks := [] }) s0 s1 s2 s3 s4 ({ m.ths[c] with tasks := [] }) ta tc va vc sa sv (l.length) (m.ths[c].vals.length) rfl rfl rfl ?_ rfl rfl hstk (by rw [hl0]) rfl ((by rw [hl0] at hA ⊢; exact hA)) (hVA) ((fun z hz => by cases hz)), ?_⟩
    · unfold rset; rw [hcc]; rfl
    · rw [← hcc]; rfl
  intro h2_5
  refine SPL_nil ?_
  refine thenP_n ?_
  refine SP_cond_t rfl ?_
  refine SP_skip ?_
  refine thenP_n ?_
  refine SP_block ?_
  refine SP_seq ?_
  obtain ⟨tk, tsp, rfl, htc, htsp, rfl⟩ := hA.row (by omega)
  obtain ⟨l0, q, rfl⟩ := snoc_of (l := l) (by omega)
  rw [List.length_append] at hA hll ⊢
  simp only [List.length_cons, List.length_nil, Nat.zero_add] at hA hll ⊢
  have hil : l0.length < (l0 ++ [q]).length := by simp
  have hqq : (l0 ++ [q])[l0.length] = q := by simp
  refine SP_draw 13 [(0, 0), (1, 0), (2, 0), (4, 0), (5, 0), (6, 0), (3, 1), (7, 1), (8, 0), (9, 0), (10, 0), (11, 1), (12, 2), (13, 3)] mixed (by kernel_rfl) (fun _ _ _ _ _ h => h) (Part.refl _) ?_
  refine SPO_p rfl (y_move rfl) rfl ?_
  refine SPO_p rfl (y_nil rfl) rfl ?_
  refine SPO_p rfl (y_fa fld_152_3 rfl) rfl ?_
  refine SPO_p rfl (y_move rfl) rfl ?_
  refine SPO_p rfl (y_nil rfl) rfl ?_
  refine SPO_p rfl (y_fa fld_152_3 rfl) rfl ?_
  refine SPO_h rfl (y_load Tryz.isAgg150 rfl (by repeat (first | exact Cell.amid hpre rfl | exact Cell.head rfl | apply Cell.tail))) rfl ?_
  refine SPO_h rfl (y_load Tryz.isAgg150 rfl (by repeat (first | exact Cell.amid hpre rfl | exact Cell.head rfl | apply Cell.tail))) rfl ?_
  refine SPO_p rfl (y_len_l Tryz.underlying150 rfl) rfl ?_
  refine SPO_p rfl (y_sub rfl rfl (by omega)) rfl ?_
  rw [show ((l0.length + 1 : Nat) : Int) - 1 = ((l0.length : Nat) : Int) by omega]
  refine SPO_p rfl (y_ia Tryz.underlying150 Tryz.sizeOf206 rfl rfl (by omega)) rfl ?_
  refine SPO_h rfl (y_loads Tryz.isAgg206 Tryz.sizeOf206 rfl rfl (by repeat (first | exact flat_cellsE (tskV_len eb) rfl hil hqq | apply Cells.tail))) rfl ?_
  refine SPO_a rfl rfl (SP1_alloc Tryz.zeroValue206 rfl rfl ?_)
  intro b7
  refine ⟨⟨_, (by repeat (first | exact Part.nil _ | (apply Part.cons; with_reducible (first | exact P0 | exact P1 | exact P2 | exact P3 | exact P4 | exact P5 | exact P6 | exact P7 | exact P8 | exact P9 | exact P10 | exact P11 | exact P12 | exact P13 | exact P14 | exact P15 | exact P16 | exact P17 | exact P18 | exact P19 | exact P20 | exact P21 | exact P22 | exact P23)) | (apply Part.flat; simp only [List.cons_append, List.nil_append]) | (apply Part.cons; (first | exact P0 | exact P1 | exact P2 | exact P3 | exact P4 | exact P5 | exact P6 | exact P7 | exact P8 | exact P9 | exact P10 | exact P11 | exact P12 | exact P13 | exact P14 | exact P15 | exact P16 | exact P17 | exact P18 | exact P19 | exact P20 | exact P21 | exact P22 | exact P23)) | (apply Part.nilc)))⟩, ?_⟩
  refine SPO_z (k := 0) rfl rfl (SP1_storeAll Tryz.sizeOf206 rfl rfl rfl rfl rfl (by first | exact U0 | exact U1 | exact U2 | exact U3 | exact U4 | exact U5 | exact U6 | exact U7 | exact U8 | exact U9 | exact U10 | exact U11 | exact U12 | exact U13 | exact U14 | exact U15 | exact U16 | exact U17 | exact U18 | exact U19 | exact U20 | exact U21 | exact U22 | exact U23) (by rfl) ?_)
  refine SPO_nil ?_
  refine thenP_n ?_
  refine SP_seq ?_
  refine SP_draw 14 [(0, 0), (1, 0), (2, 0), (3, 0), (5, 0), (6, 0), (7, 0), (4, 1), (8, 1), (9, 0), (10, 0), (11, 0), (12, 0), (13, 0), (14, 3)] mixed (by kernel_rfl) (fun _ _ _ _ _ h => h) (Part.refl _) ?_
  refine SPO_p rfl (y_move rfl) rfl ?_
  refine SPO_p rfl (y_move rfl) rfl ?_
  refine SPO_p rfl (y_nil rfl) rfl ?_
  refine SPO_p rfl (y_fa fld_152_3 rfl) rfl ?_
  refine SPO_p rfl (y_move rfl) rfl ?_
  refine SPO_p rfl (y_nil rfl) rfl ?_
  refine SPO_p rfl (y_fa fld_152_3 rfl) rfl ?_
  refine SPO_h rfl (y_load Tryz.isAgg150 rfl (by repeat (first | exact Cell.amid hpre rfl | exact Cell.head rfl | apply Cell.tail))) rfl ?_
  refine SPO_h rfl (y_load Tryz.isAgg150 rfl (by repeat (first | exact Cell.amid hpre rfl | exact Cell.head rfl | apply Cell.tail))) rfl ?_
  refine SPO_p rfl (y_len_l Tryz.underlying150 rfl) rfl ?_
  refine SPO_p rfl (y_sub rfl rfl (by omega)) rfl ?_
  rw [show ((l0.length + 1 : Nat) : Int) - 1 = ((l0.length : Nat) : Int) by omega]
  refine SPO_p rfl (y_cut hA Tryz.underlying150 Tryz.sizeOf206 rfl rfl (by omega)) rfl ?_
  refine SPO_p rfl (y_nil rfl) rfl ?_
  refine SPO_p rfl (y_fa fld_152_3 rfl) rfl ?_
  refine SPO_z (k := 0) rfl rfl (SP1_store Tryz.sizeOf150 rfl rfl rfl (by first | exact U0 | exact U1 | exact U2 | exact U3 | exact U4 | exact U5 | exact U6 | exact U7 | exact U8 | exact U9 | exact U10 | exact U11 | exact U12 | exact U13 | exact U14 | exact U15 | exact U16 | exact U17 | exact U18 | exact U19 | exact U20 | exact U21 | exact U22 | exact U23) (by rfl) ?_)
  refine SPO_nil ?_
  refine thenP_n ?_
  refine SP_seq ?_
  refine SP_seq ?_
  refine SP_region ?_
  refine SPL_y (y_fa fld_206_0 rfl) rfl ?_
  refine SPL_y (y_load Tryz.isAgg3 rfl (by repeat (first | exact Cell.amid hpre rfl | exact Cell.head rfl | apply Cell.tail))) rfl ?_
  refine SPL_if (y_neq rfl rfl) rfl ?_ ?_
  · intro h5_2
    refine SPL_nil ?_
    refine thenP_n ?_
    refine SP_cond_t rfl ?_
    refine SP_exit ?_
    refine thenP_exit ?_
    refine inBlockP_hit ?_
    refine thenP_n ?_
    exact Again.intro (l0) (⟨arr_snoc hA, fun z hz => hsc z (List.mem_append_left _ hz), by omega, by rw [hun, ret_snoc, if_pos h5_2]⟩) (by simp) (by repeat (first | exact Sub.nil _ | refine Sub.cons rfl ?_)) (by repeat (first | exact Part.nil _ | (apply Part.cons; with_reducible (first | exact P0 | exact P1 | exact P2 | exact P3 | exact P4 | exact P5 | exact P6 | exact P7 | exact P8 | exact P9 | exact P10 | exact P11 | exact P12 | exact P13 | exact P14 | exact P15 | exact P16 | exact P17 | exact P18 | exact P19 | exact P20 | exact P21 | exact P22 | exact P23)) | (apply Part.flat; simp only [List.cons_append, List.nil_append]) | (apply Part.cons; (first | exact P0 | exact P1 | exact P2 | exact P3 | exact P4 | exact P5 | exact P6 | exact P7 | exact P8 | exact P9 | exact P10 | exact P11 | exact P12 | exact P13 | exact P14 | exact P15 | exact P16 | exact P17 | exact P18 | exact P19 | exact P20 | exact P21 | exact P22 | exact P23)) | (apply Part.nilc)))
  intro h5_2
  refine SPL_nil ?_
  refine thenP_n ?_
  refine SP_cond_f rfl ?_
  refine SP_skip ?_
  refine thenP_n ?_
  refine SP_seq ?_
  rw [ret_snoc, if_neg h5_2] at hP
  dsimp only at hP
  rw [List.reverse_reverse] at hP
  have hqx : 0 ≤ q.x ∧ q.x ≤ m.ths[c].vals.length := Decidable.byContradiction fun z => by rw [if_pos z] at hP; cases hP
  rw [if_neg (fun z => z hqx)] at hP
  have hvle := hVA.mle
  refine SP_region ?_
  refine SPL_y (y_move rfl) rfl ?_
  refine SPL_y (y_nil rfl) rfl ?_
  refine SPL_y (y_fa fld_152_2 rfl) rfl ?_
  refine SPL_y (y_load Tryz.isAgg3 rfl (by repeat (first | exact Cell.amid hpre rfl | exact Cell.head rfl | apply Cell.tail))) rfl ?_
  refine SPL_y (y_sub rfl rfl (by omega)) rfl ?_
  refine SPL_y (y_nil rfl) rfl ?_
  refine SPL_y (y_fa fld_152_2 rfl) rfl ?_
  refine SPL_one rfl (SP1_store Tryz.sizeOf3 rfl rfl rfl (by first | exact U0 | exact U1 | exact U2 | exact U3 | exact U4 | exact U5 | exact U6 | exact U7 | exact U8 | exact U9 | exact U10 | exact U11 | exact U12 | exact U13 | exact U14 | exact U15 | exact U16 | exact U17 | exact U18 | exact U19 | exact U20 | exact U21 | exact U22 | exact U23) (by rfl) ?_)
  refine SPL_nil ?_
  refine thenP_n ?_
  refine SP_seq ?_
  refine SP_draw 10 [(0, 0), (1, 0), (2, 0), (3, 0), (5, 0), (4, 1), (6, 1), (7, 0), (8, 0), (9, 0), (10, 3)] mixed (by kernel_rfl) (fun _ _ _ _ _ h => h) (Part.refl _) ?_
  refine SPO_p rfl (y_move rfl) rfl ?_
  refine SPO_p rfl (y_move rfl) rfl ?_
  refine SPO_p rfl (y_nil rfl) rfl ?_
  refine SPO_p rfl (y_fa fld_152_4 rfl) rfl ?_
  refine SPO_p rfl (y_fa fld_206_2 rfl) rfl ?_
  refine SPO_h rfl (y_load Tryz.isAgg90 rfl (by repeat (first | exact Cell.amid hpre rfl | exact Cell.head rfl | apply Cell.tail))) rfl ?_
  refine SPO_h rfl (y_load Tryz.isAgg3 rfl (by repeat (first | exact Cell.amid hpre rfl | exact Cell.head rfl | apply Cell.tail))) rfl ?_
  refine SPO_p rfl (y_cut hVA Tryz.underlying90 Tryz.sizeOf42 rfl rfl (by omega)) rfl ?_
  refine SPO_p rfl (y_nil rfl) rfl ?_
  refine SPO_p rfl (y_fa fld_152_4 rfl) rfl ?_
  refine SPO_z (k := 0) rfl rfl (SP1_store Tryz.sizeOf90 rfl rfl rfl (by first | exact U0 | exact U1 | exact U2 | exact U3 | exact U4 | exact U5 | exact U6 | exact U7 | exact U8 | exact U9 | exact U10 | exact U11 | exact U12 | exact U13 | exact U14 | exact U15 | exact U16 | exact U17 | exact U18 | exact U19 | exact U20 | exact U21 | exact U22 | exact U23) (by rfl) ?_)
  refine SPO_nil ?_
  refine thenP_n ?_
  refine SP_seq ?_
  refine SP_seq ?_
  refine SP_region ?_
  refine SPL_y (y_move rfl) rfl ?_
  refine SPL_y (y_nil rfl) rfl ?_
  refine SPL_y (y_fa fld_152_3 rfl) rfl ?_
  refine SPL_y (y_load Tryz.isAgg150 rfl (by repeat (first | exact Cell.amid hpre rfl | exact Cell.head rfl | apply Cell.tail))) rfl ?_
  refine SPL_y (y_len_l Tryz.underlying150 rfl) rfl ?_
  refine SPL_if (y_eql rfl rfl) rfl ?_ ?_
  · intro h8_5
    refine SPL_nil ?_
    refine thenP_n ?_
    refine SP_cond_t rfl ?_
    refine SP_seq ?_
    refine SP_region ?_
    refine SPL_y (y_move rfl) rfl ?_
    refine SPL_y (y_nil rfl) rfl ?_
    refine SPL_y (y_fa fld_152_0 rfl) rfl ?_
    refine SPL_one rfl (SP1_store Tryz.sizeOf3 rfl rfl rfl (by first | exact U0 | exact U1 | exact U2 | exact U3 | exact U4 | exact U5 | exact U6 | exact U7 | exact U8 | exact U9 | exact U10 | exact U11 | exact U12 | exact U13 | exact U14 | exact U15 | exact U16 | exact U17 | exact U18 | exact U19 | exact U20 | exact U21 | exact U22 | exact U23) (by rfl) ?_)
    refine SPL_nil ?_
    refine thenP_n ?_
    refine SP_seq ?_
    have hl0 : l0 = [] := List.eq_nil_of_length_eq_zero (by omega)
    rw [if_pos (by rw [hl0]; rfl)] at hP
    have hM10 : isRm x eb hb (rset m { m.ths[c] with st := 5, depth := m.ths[c].depth - 1, tasks := l0, vals := m.ths[c].vals.take q.x.toNat }) (List.flatten [blk x.b 142 [ptr x.nb, ptr x.tb, Value.slice x.na m.nodes.length x.nc, I m.root, Value.slice ca m.clos.length cc, Value.slice (some ⟨hk, 0, none⟩) m.ths.length hc', I s0, I s1, I s2, I s3, I s4, I m.sp, I (c : Int), I m.fuel, I m.first, S m.out, .bool m.done, I m.ans.e, I m.ans.n, I m.ans.m, S m.ans.s, S m.ans.t], sX, blk hk 149 (hb.map ptr ++ hsp), sA, List.flatten [blk (hb.getD c 0) 152 [I 5, I m.ths[c].fn, I (m.ths[c].depth - 1), Value.slice (some ⟨tk, 0, none⟩) (l0.length) tc, Value.slice va (q.x.toNat) vc], (blk tk 206 ((l0 ++ [q]).flatMap (tskV eb) ++ tsp)), sv], sZ, R]) := by
      have := hput (rset m { m.ths[c] with st := 5, depth := m.ths[c].depth - 1, tasks := l0, vals := m.ths[c].vals.take q.x.toNat }) s0 s1 s2 s3 s4 ({ m.ths[c] with st := 5, depth := m.ths[c].depth - 1, tasks := l0, vals := m.ths[c].vals.take q.x.toNat }) (some ⟨tk, 0, none⟩) tc va vc (blk tk 206 ((l0 ++ [q]).flatMap (tskV eb) ++ tsp)) sv (l0.length) (q.x.toNat) rfl rfl rfl ?_ rfl rfl hstk rfl (by rw [List.length_take]; omega) (arr_snoc hA) ((by have := hVA.cut (j := q.x.toNat) (by omega); rwa [flat_tk1 valV_len] at this)) (fun z hz => hsc z (List.mem_append_left _ hz))
      · rw [← hcc]; exact this
      · unfold rset; rw [hcc]; rfl
    refine SP_part (H' := [List.flatten [blk x.b 142 [ptr x.nb, ptr x.tb, Value.slice x.na m.nodes.length x.nc, I m.root, Value.slice ca m.clos.length cc, Value.slice (some ⟨hk, 0, none⟩) m.ths.length hc', I s0, I s1, I s2, I s3, I s4, I m.sp, I (c : Int), I m.fuel, I m.first, S m.out, .bool m.done, I m.ans.e, I m.ans.n, I m.ans.m, S m.ans.s, S m.ans.t], sX, blk hk 149 (hb.map ptr ++ hsp), sA, List.flatten [blk (hb.getD c 0) 152 [I 5, I m.ths[c].fn, I (m.ths[c].depth - 1), Value.slice (some ⟨tk, 0, none⟩) (l0.length) tc, Value.slice va (q.x.toNat) vc], (blk tk 206 ((l0 ++ [q]).flatMap (tskV eb) ++ tsp)), sv], sZ, R], blk b4 42 (valV a), blk b5 42 (valV b), blk b7 206 (tskV eb q)]) (by repeat (first | exact Part.nil _ | (apply Part.cons; with_reducible (first | exact P0 | exact P1 | exact P2 | exact P3 | exact P4 | exact P5 | exact P6 | exact P7 | exact P8 | exact P9 | exact P10 | exact P11 | exact P12 | exact P13 | exact P14 | exact P15 | exact P16 | exact P17 | exact P18 | exact P19 | exact P20 | exact P21 | exact P22 | exact P23)) | (apply Part.flat; simp only [List.cons_append, List.nil_append]) | (apply Part.cons; (first | exact P0 | exact P1 | exact P2 | exact P3 | exact P4 | exact P5 | exact P6 | exact P7 | exact P8 | exact P9 | exact P10 | exact P11 | exact P12 | exact P13 | exact P14 | exact P15 | exact P16 | exact P17 | exact P18 | exact P19 | exact P20 | exact P21 | exact P22 | exact P23)) | (apply Part.nilc))) ?_
    have hP2 : rback true a (rset m { m.ths[c] with st := 5, depth := m.ths[c].depth - 1, tasks := l0, vals := m.ths[c].vals.take q.x.toNat }) = some m' := by rw [hl0]; exact hP
    refine SP_region ?_
    refine SPL_y (y_move rfl) rfl ?_
    refine SPL_y (y_loads Tryz.isAgg42 Tryz.sizeOf42 rfl rfl (by repeat (first | exact Cells.all _ | exact Cells.amid hpre rfl (by decide) | exact Cells.head rfl | apply Cells.tail))) rfl ?_
    refine SPL_one rfl (SP1_call (cm_back x eb hb true a hP2 _ hM10) Tryz.call159 rfl rfl (by repeat (first | exact Part.nil _ | (apply Part.cons; with_reducible (first | exact P0 | exact P1 | exact P2 | exact P3 | exact P4 | exact P5 | exact P6 | exact P7 | exact P8 | exact P9 | exact P10 | exact P11 | exact P12 | exact P13 | exact P14 | exact P15 | exact P16 | exact P17 | exact P18 | exact P19 | exact P20 | exact P21 | exact P22 | exact P23)) | (apply Part.flat; simp only [List.cons_append, List.nil_append]) | (apply Part.cons; (first | exact P0 | exact P1 | exact P2 | exact P3 | exact P4 | exact P5 | exact P6 | exact P7 | exact P8 | exact P9 | exact P10 | exact P11 | exact P12 | exact P13 | exact P14 | exact P15 | exact P16 | exact P17 | exact P18 | exact P19 | exact P20 | exact P21 | exact P22 | exact P23)) | (apply Part.nilc))) ?_)
    rintro v post H' ⟨rfl, sg20, hM20, rfl⟩ hH
    try simp only [List.cons_append, List.nil_append] at hH
    subst hH
    refine SPL_nil ?_
    refine thenP_n ?_
    refine SP_ret ?_
    refine thenP_ret (inBlockP_ret (thenP_ret (inBlockP_ret (bodyP_ret (H' := [sg20]) (Res0 rfl) (by repeat (first | exact Part.nil _ | (apply Part.cons; with_reducible (first | exact P0 | exact P1 | exact P2 | exact P3 | exact P4 | exact P5 | exact P6 | exact P7 | exact P8 | exact P9 | exact P10 | exact P11 | exact P12 | exact P13 | exact P14 | exact P15 | exact P16 | exact P17 | exact P18 | exact P19 | exact P20 | exact P21 | exact P22 | exact P23)) | (apply Part.flat; simp only [List.cons_append, List.nil_append]) | (apply Part.cons; (first | exact P0 | exact P1 | exact P2 | exact P3 | exact P4 | exact P5 | exact P6 | exact P7 | exact P8 | exact P9 | exact P10 | exact P11 | exact P12 | exact P13 | exact P14 | exact P15 | exact P16 | exact P17 | exact P18 | exact P19 | exact P20 | exact P21 | exact P22 | exact P23)) | (apply Part.nilc))) ?_))))
    exact ⟨rfl, _, hM20, rfl⟩
  intro h8_5
  refine SPL_nil ?_
  refine thenP_n ?_
  refine SP_cond_f rfl ?_
  refine SP_skip ?_
  refine thenP_n ?_
  refine SP_seq ?_
  refine SP_seq ?_
  have hl0 : ¬ l0 = [] := fun z => by rw [z] at h8_5; exact h8_5 rfl
  rw [if_neg (fun z => hl0 (by simpa using z))] at hP
  have hM11 : isRm x eb hb (rset m { m.ths[c] with depth := m.ths[c].depth - 1, tasks := l0, vals := m.ths[c].vals.take q.x.toNat }) (List.flatten [blk x.b 142 [ptr x.nb, ptr x.tb, Value.slice x.na m.nodes.length x.nc, I m.root, Value.slice ca m.clos.length cc, Value.slice (some ⟨hk, 0, none⟩) m.ths.length hc', I s0, I s1, I s2, I s3, I s4, I m.sp, I (c : Int), I m.fuel, I m.first, S m.out, .bool m.done, I m.ans.e, I m.ans.n, I m.ans.m, S m.ans.s, S m.ans.t], sX, blk hk 149 (hb.map ptr ++ hsp), sA, List.flatten [blk (hb.getD c 0) 152 [I m.ths[c].st, I m.ths[c].fn, I (m.ths[c].depth - 1), Value.slice (some ⟨tk, 0, none⟩) (l0.length) tc, Value.slice va (q.x.toNat) vc], (blk tk 206 ((l0 ++ [q]).flatMap (tskV eb) ++ tsp)), sv], sZ, R]) := by
    have := hput (rset m { m.ths[c] with depth := m.ths[c].depth - 1, tasks := l0, vals := m.ths[c].vals.take q.x.toNat }) s0 s1 s2 s3 s4 ({ m.ths[c] with depth := m.ths[c].depth - 1, tasks := l0, vals := m.ths[c].vals.take q.x.toNat }) (some ⟨tk, 0, none⟩) tc va vc (blk tk 206 ((l0 ++ [q]).flatMap (tskV eb) ++ tsp)) sv (l0.length) (q.x.toNat) rfl rfl rfl ?_ rfl rfl hstk rfl (by rw [List.length_take]; omega) (arr_snoc hA) ((by have := hVA.cut (j := q.x.toNat) (by omega); rwa [flat_tk1 valV_len] at this)) (fun z hz => hsc z (List.mem_append_left _ hz))
    · rw [← hcc]; exact this
    · unfold rset; rw [hcc]; rfl
  refine SP_part (H' := [List.flatten [blk x.b 142 [ptr x.nb, ptr x.tb, Value.slice x.na m.nodes.length x.nc, I m.root, Value.slice ca m.clos.length cc, Value.slice (some ⟨hk, 0, none⟩) m.ths.length hc', I s0, I s1, I s2, I s3, I s4, I m.sp, I (c : Int), I m.fuel, I m.first, S m.out, .bool m.done, I m.ans.e, I m.ans.n, I m.ans.m, S m.ans.s, S m.ans.t], sX, blk hk 149 (hb.map ptr ++ hsp), sA, List.flatten [blk (hb.getD c 0) 152 [I m.ths[c].st, I m.ths[c].fn, I (m.ths[c].depth - 1), Value.slice (some ⟨tk, 0, none⟩) (l0.length) tc, Value.slice va (q.x.toNat) vc], (blk tk 206 ((l0 ++ [q]).flatMap (tskV eb) ++ tsp)), sv], sZ, R], blk b4 42 (valV a), blk b5 42 (valV b), blk b7 206 (tskV eb q)]) (by repeat (first | exact Part.nil _ | (apply Part.cons; with_reducible (first | exact P0 | exact P1 | exact P2 | exact P3 | exact P4 | exact P5 | exact P6 | exact P7 | exact P8 | exact P9 | exact P10 | exact P11 | exact P12 | exact P13 | exact P14 | exact P15 | exact P16 | exact P17 | exact P18 | exact P19 | exact P20 | exact P21 | exact P22 | exact P23)) | (apply Part.flat; simp only [List.cons_append, List.nil_append]) | (apply Part.cons; (first | exact P0 | exact P1 | exact P2 | exact P3 | exact P4 | exact P5 | exact P6 | exact P7 | exact P8 | exact P9 | exact P10 | exact P11 | exact P12 | exact P13 | exact P14 | exact P15 | exact P16 | exact P17 | exact P18 | exact P19 | exact P20 | exact P21 | exact P22 | exact P23)) | (apply Part.nilc))) ?_
  refine SP_region ?_
  refine SPL_y (y_fa fld_206_1 rfl) rfl ?_
  refine SPL_y (y_load Tryz.isAgg3 rfl (by repeat (first | exact Cell.amid hpre rfl | exact Cell.head rfl | apply Cell.tail))) rfl ?_
  refine SPL_if (y_eql rfl rfl) rfl ?_ ?_
  · intro h11_2
    refine SPL_nil ?_
    refine thenP_n ?_
    refine SP_cond_t rfl ?_
    refine SP_seq ?_
    rw [if_pos h11_2] at hP
    obtain ⟨m12, hq12, hP⟩ := bnd1 hP
    refine SP_region ?_
    refine SPL_y (y_move rfl) rfl ?_
    refine SPL_y (y_build B42 rfl rfl (by simp only [fillL, List.foldl_cons, List.foldl_nil, List.set_cons_zero, List.set_cons_succ]; exact rfl)) rfl ?_
    refine SPL_one rfl (SP1_call (cm_push x eb hb ⟨1, 1, []⟩ hq12 _ hM11) Tryz.call107 rfl rfl (by repeat (first | exact Part.nil _ | (apply Part.cons; with_reducible (first | exact P0 | exact P1 | exact P2 | exact P3 | exact P4 | exact P5 | exact P6 | exact P7 | exact P8 | exact P9 | exact P10 | exact P11 | exact P12 | exact P13 | exact P14 | exact P15 | exact P16 | exact P17 | exact P18 | exact P19 | exact P20 | exact P21 | exact P22 | exact P23)) | (apply Part.flat; simp only [List.cons_append, List.nil_append]) | (apply Part.cons; (first | exact P0 | exact P1 | exact P2 | exact P3 | exact P4 | exact P5 | exact P6 | exact P7 | exact P8 | exact P9 | exact P10 | exact P11 | exact P12 | exact P13 | exact P14 | exact P15 | exact P16 | exact P17 | exact P18 | exact P19 | exact P20 | exact P21 | exact P22 | exact P23)) | (apply Part.nilc))) ?_)
    rintro v post H' ⟨rfl, sg12, hM12, rfl⟩ hH
    try simp only [List.cons_append, List.nil_append] at hH
    subst hH
    refine SPL_nil ?_
    refine thenP_n ?_
    refine SP_seq ?_
    refine SP_region ?_
    refine SPL_y (y_move rfl) rfl ?_
    refine SPL_y (y_loads Tryz.isAgg42 Tryz.sizeOf42 rfl rfl (by repeat (first | exact Cells.all _ | exact Cells.amid hpre rfl (by decide) | exact Cells.head rfl | apply Cells.tail))) rfl ?_
    refine SPL_one rfl (SP1_call (cm_push x eb hb a hP _ hM12) Tryz.call107 rfl rfl (by repeat (first | exact Part.nil _ | (apply Part.cons; with_reducible (first | exact P0 | exact P1 | exact P2 | exact P3 | exact P4 | exact P5 | exact P6 | exact P7 | exact P8 | exact P9 | exact P10 | exact P11 | exact P12 | exact P13 | exact P14 | exact P15 | exact P16 | exact P17 | exact P18 | exact P19 | exact P20 | exact P21 | exact P22 | exact P23)) | (apply Part.flat; simp only [List.cons_append, List.nil_append]) | (apply Part.cons; (first | exact P0 | exact P1 | exact P2 | exact P3 | exact P4 | exact P5 | exact P6 | exact P7 | exact P8 | exact P9 | exact P10 | exact P11 | exact P12 | exact P13 | exact P14 | exact P15 | exact P16 | exact P17 | exact P18 | exact P19 | exact P20 | exact P21 | exact P22 | exact P23)) | (apply Part.nilc))) ?_)
    rintro v post H' ⟨rfl, sg13, hM13, rfl⟩ hH
    try simp only [List.cons_append, List.nil_append] at hH
    subst hH
    refine SPL_nil ?_
    refine thenP_n ?_
    refine SP_ret ?_
    refine thenP_ret (inBlockP_ret (thenP_ret (inBlockP_ret (bodyP_ret (H' := [sg13]) (Res0 rfl) (by repeat (first | exact Part.nil _ | (apply Part.cons; with_reducible (first | exact P0 | exact P1 | exact P2 | exact P3 | exact P4 | exact P5 | exact P6 | exact P7 | exact P8 | exact P9 | exact P10 | exact P11 | exact P12 | exact P13 | exact P14 | exact P15 | exact P16 | exact P17 | exact P18 | exact P19 | exact P20 | exact P21 | exact P22 | exact P23)) | (apply Part.flat; simp only [List.cons_append, List.nil_append]) | (apply Part.cons; (first | exact P0 | exact P1 | exact P2 | exact P3 | exact P4 | exact P5 | exact P6 | exact P7 | exact P8 | exact P9 | exact P10 | exact P11 | exact P12 | exact P13 | exact P14 | exact P15 | exact P16 | exact P17 | exact P18 | exact P19 | exact P20 | exact P21 | exact P22 | exact P23)) | (apply Part.nilc))) ?_))))
    exact ⟨rfl, _, hM13, rfl⟩
  intro h11_2
  refine SPL_nil ?_
  refine thenP_n ?_
  refine SP_cond_f rfl ?_
  refine SP_skip ?_
  refine thenP_n ?_
  refine SP_seq ?_
  rw [if_neg h11_2] at hP
  obtain ⟨m12, hq12, hP⟩ := bnd1 hP
  refine SP_region ?_
  refine SPL_y (y_move rfl) rfl ?_
  refine SPL_y (y_loads Tryz.isAgg42 Tryz.sizeOf42 rfl rfl (by repeat (first | exact Cells.all _ | exact Cells.amid hpre rfl (by decide) | exact Cells.head rfl | apply Cells.tail))) rfl ?_
  refine SPL_one rfl (SP1_call (cm_push x eb hb a hq12 _ hM11) Tryz.call107 rfl rfl (by repeat (first | exact Part.nil _ | (apply Part.cons; with_reducible (first | exact P0 | exact P1 | exact P2 | exact P3 | exact P4 | exact P5 | exact P6 | exact P7 | exact P8 | exact P9 | exact P10 | exact P11 | exact P12 | exact P13 | exact P14 | exact P15 | exact P16 | exact P17 | exact P18 | exact P19 | exact P20 | exact P21 | exact P22 | exact P23)) | (apply Part.flat; simp only [List.cons_append, List.nil_append]) | (apply Part.cons; (first | exact P0 | exact P1 | exact P2 | exact P3 | exact P4 | exact P5 | exact P6 | exact P7 | exact P8 | exact P9 | exact P10 | exact P11 | exact P12 | exact P13 | exact P14 | exact P15 | exact P16 | exact P17 | exact P18 | exact P19 | exact P20 | exact P21 | exact P22 | exact P23)) | (apply Part.nilc))) ?_)
  rintro v post H' ⟨rfl, sg12, hM12, rfl⟩ hH
  try simp only [List.cons_append, List.nil_append] at hH
  subst hH
  refine SPL_nil ?_
  refine thenP_n ?_
  refine SP_seq ?_
  refine SP_region ?_
  refine SPL_y (y_move rfl) rfl ?_
  refine SPL_y (y_loads Tryz.isAgg42 Tryz.sizeOf42 rfl rfl (by repeat (first | exact Cells.all _ | exact Cells.amid hpre rfl (by decide) | exact Cells.head rfl | apply Cells.tail))) rfl ?_
  refine SPL_one rfl (SP1_call (cm_push x eb hb b hP _ hM12) Tryz.call107 rfl rfl (by repeat (first | exact Part.nil _ | (apply Part.cons; with_reducible (first | exact P0 | exact P1 | exact P2 | exact P3 | exact P4 | exact P5 | exact P6 | exact P7 | exact P8 | exact P9 | exact P10 | exact P11 | exact P12 | exact P13 | exact P14 | exact P15 | exact P16 | exact P17 | exact P18 | exact P19 | exact P20 | exact P21 | exact P22 | exact P23)) | (apply Part.flat; simp only [List.cons_append, List.nil_append]) | (apply Part.cons; (first | exact P0 | exact P1 | exact P2 | exact P3 | exact P4 | exact P5 | exact P6 | exact P7 | exact P8 | exact P9 | exact P10 | exact P11 | exact P12 | exact P13 | exact P14 | exact P15 | exact P16 | exact P17 | exact P18 | exact P19 | exact P20 | exact P21 | exact P22 | exact P23)) | (apply Part.nilc))) ?_)
  rintro v post H' ⟨rfl, sg13, hM13, rfl⟩ hH
  try simp only [List.cons_append, List.nil_append] at hH
  subst hH
  refine SPL_nil ?_
  refine thenP_n ?_
  refine SP_ret ?_
  refine inBlockP_ret (thenP_ret (inBlockP_ret (bodyP_ret (H' := [sg13]) (Res0 rfl) (by repeat (first | exact Part.nil _ | (apply Part.cons; with_reducible (first | exact P0 | exact P1 | exact P2 | exact P3 | exact P4 | exact P5 | exact P6 | exact P7 | exact P8 | exact P9 | exact P10 | exact P11 | exact P12 | exact P13 | exact P14 | exact P15 | exact P16 | exact P17 | exact P18 | exact P19 | exact P20 | exact P21 | exact P22 | exact P23)) | (apply Part.flat; simp only [List.cons_append, List.nil_append]) | (apply Part.cons; (first | exact P0 | exact P1 | exact P2 | exact P3 | exact P4 | exact P5 | exact P6 | exact P7 | exact P8 | exact P9 | exact P10 | exact P11 | exact P12 | exact P13 | exact P14 | exact P15 | exact P16 | exact P17 | exact P18 | exact P19 | exact P20 | exact P21 | exact P22 | exact P23)) | (apply Part.nilc))) ?_)))
  exact ⟨rfl, _, hM13, rfl⟩

end Go.Sl
