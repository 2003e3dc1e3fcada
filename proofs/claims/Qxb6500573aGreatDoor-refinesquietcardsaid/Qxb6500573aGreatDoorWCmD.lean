/- Walks: package compm: find, enter (made by program out of short notes) -/
import Derived.Test.Qxb6500573aGreatDoorCME
namespace Go.Sl
open Go Go.Wl Go.Proofs
open Go.Nm
set_option maxRecDepth 100000
set_option linter.unusedVariables false
set_option linter.unusedSimpArgs false
theorem cm_find (x : RX) (eb hb : List Nat) {m : RnM} {e r : Option Nat} {nm : List UInt8} (hP : rfind m e nm = some r) (s : Seg) (hM : isRm x eb hb m s) : Spec Tryz.prog 100 [ePt eb e, S nm] [s] (Ret fun v H => v = ePt eb r ∧ H = [s]) := by
  unfold rfind at hP
  refine Spec_enter Tryz.func100 rfl Tryz.ntmps100 rfl ?_
  show SP _ _ _ _ _ [(0, _), (1, _)] _
  refine SP_seq ?_
  refine SP_region ?_
  refine SPL_y (y_assign rfl) rfl ?_
  refine SPL_nil ?_
  refine thenP_n ?_
  refine SP_seq ?_
  refine SP_block ?_
  refine SP_loop (G := Nat × Option Nat) (fun g => g.1) (fun g => [(0, ePt eb g.2), (1, S nm)]) (fun _ => [s]) (fun g => findE g.1 m.envs g.2 nm = some r) ((m.envs.length + 1, e)) (hP) (by repeat (first | exact Sub.nil _ | refine Sub.cons rfl ?_)) (by repeat (first | exact Part.nil _ | (apply Part.cons; with_reducible (first | exact P0 | exact P1 | exact P2 | exact P3 | exact P4 | exact P5 | exact P6 | exact P7 | exact P8 | exact P9 | exact P10 | exact P11 | exact P12 | exact P13 | exact P14 | exact P15 | exact P16 | exact P17 | exact P18 | exact P19 | exact P20 | exact P21 | exact P22 | exact P23)) | (apply Part.flat; simp only [List.cons_append, List.nil_append]) | (apply Part.cons; (first | exact P0 | exact P1 | exact P2 | exact P3 | exact P4 | exact P5 | exact P6 | exact P7 | exact P8 | exact P9 | exact P10 | exact P11 | exact P12 | exact P13 | exact P14 | exact P15 | exact P16 | exact P17 | exact P18 | exact P19 | exact P20 | exact P21 | exact P22 | exact P23)) | (apply Part.nilc))) ?_
  rintro ⟨f0, e1⟩ hf
  dsimp only at hf ⊢
  cases f0 with
  | zero => cases hf
  | succ f =>
  rcases e1 with _ | i
  · rw [findE] at hf
    injection hf with hf
    subst hf
    refine SP_seq ?_
    refine SP_seq ?_
    refine SP_region ?_
    refine SPL_y (y_move rfl) rfl ?_
    refine SPL_y (y_pneq_F Tryz.underlying146 rfl rfl) rfl ?_
    refine SPL_y (y_move rfl) rfl ?_
    refine SPL_gn rfl rfl rfl rfl ?_
    refine SPL_gn rfl rfl rfl rfl ?_
    refine SPL_gn rfl rfl rfl rfl ?_
    refine SPL_gn rfl rfl rfl rfl ?_
    refine SPL_gn rfl rfl rfl rfl ?_
    refine SPL_gn rfl rfl rfl rfl ?_
    refine SPL_y (y_pick_f rfl rfl) rfl ?_
    refine SPL_nil ?_
    refine thenP_n ?_
    refine SP_cond_f rfl ?_
    refine SP_exit ?_
    refine thenP_exit ?_
    refine thenP_exit ?_
    refine inBlockP_hit ?_
    refine thenP_n ?_
    refine SP_seq ?_
    refine SP_region ?_
    refine SPL_y (y_move rfl) rfl ?_
    refine SPL_y (y_assign rfl) rfl ?_
    refine SPL_nil ?_
    refine thenP_n ?_
    refine SP_ret ?_
    refine bodyP_ret (H' := [s]) (Res1 rfl rfl) (by repeat (first | exact Part.nil _ | (apply Part.cons; with_reducible (first | exact P0 | exact P1 | exact P2 | exact P3 | exact P4 | exact P5 | exact P6 | exact P7 | exact P8 | exact P9 | exact P10 | exact P11 | exact P12 | exact P13 | exact P14 | exact P15 | exact P16 | exact P17 | exact P18 | exact P19 | exact P20 | exact P21 | exact P22 | exact P23)) | (apply Part.flat; simp only [List.cons_append, List.nil_append]) | (apply Part.cons; (first | exact P0 | exact P1 | exact P2 | exact P3 | exact P4 | exact P5 | exact P6 | exact P7 | exact P8 | exact P9 | exact P10 | exact P11 | exact P12 | exact P13 | exact P14 | exact P15 | exact P16 | exact P17 | exact P18 | exact P19 | exact P20 | exact P21 | exact P22 | exact P23)) | (apply Part.nilc))) ?_
    exact ⟨rfl, rfl⟩
  · rw [findE] at hf
    have hi : i < m.envs.length := Decidable.byContradiction fun q => by rw [List.getElem?_eq_none (by omega)] at hf; cases hf
    rw [List.getElem?_eq_getElem hi] at hf
    dsimp only at hf
    have hcE : ∀ H : Hp, Cell (s :: H) (eb.getD i 0) (0 + 0) (S m.envs[i].name) := fun H => (hM.env hi H).cell (j := 0) rfl
    have hcU : ∀ H : Hp, Cell (s :: H) (eb.getD i 0) (0 + 4) (ePt eb m.envs[i].up) := fun H => (hM.env hi H).cell (j := 4) rfl
    refine SP_seq ?_
    refine SP_seq ?_
    refine SP_region ?_
    refine SPL_y (y_move rfl) rfl ?_
    refine SPL_y (y_pneq_T Tryz.underlying146 rfl rfl) rfl ?_
    refine SPL_y (y_move rfl) rfl ?_
    refine SPL_gy rfl rfl ?_
    refine SPL_y (y_move rfl) rfl ?_
    refine SPL_gy rfl rfl ?_
    refine SPL_y (y_nil rfl) rfl ?_
    refine SPL_gy rfl rfl ?_
    refine SPL_y (y_fa fld_204_0 rfl) rfl ?_
    refine SPL_gy rfl rfl ?_
    refine SPL_y (y_load Tryz.isAgg9 rfl (by repeat (first | exact hcE _ | apply Cell.tail))) rfl ?_
    refine SPL_gy rfl rfl ?_
    refine SPL_y (y_move rfl) rfl ?_
    refine SPL_gy rfl rfl ?_
    refine SPL_if (y_sne rfl rfl) rfl ?_ ?_
    · intro h1_8
      refine SPL_y (y_pick_t rfl rfl) rfl ?_
      refine SPL_nil ?_
      refine thenP_n ?_
      refine SP_cond_t rfl ?_
      refine SP_skip ?_
      refine thenP_n ?_
      refine SP_block ?_
      refine SP_region ?_
      refine SPL_y (y_move rfl) rfl ?_
      refine SPL_y (y_nil rfl) rfl ?_
      refine SPL_y (y_fa fld_204_2 rfl) rfl ?_
      refine SPL_y (y_load Tryz.isAgg146 rfl (by repeat (first | exact hcU _ | apply Cell.tail))) rfl ?_
      refine SPL_y (y_assign rfl) rfl ?_
      refine SPL_nil ?_
      refine inBlockP_n ?_
      refine thenP_n ?_
      exact Again.intro ((f, m.envs[i].up)) (by dsimp only; rwa [if_neg h1_8] at hf) (by dsimp only; omega) (by repeat (first | exact Sub.nil _ | refine Sub.cons rfl ?_)) (by repeat (first | exact Part.nil _ | (apply Part.cons; with_reducible (first | exact P0 | exact P1 | exact P2 | exact P3 | exact P4 | exact P5 | exact P6 | exact P7 | exact P8 | exact P9 | exact P10 | exact P11 | exact P12 | exact P13 | exact P14 | exact P15 | exact P16 | exact P17 | exact P18 | exact P19 | exact P20 | exact P21 | exact P22 | exact P23)) | (apply Part.flat; simp only [List.cons_append, List.nil_append]) | (apply Part.cons; (first | exact P0 | exact P1 | exact P2 | exact P3 | exact P4 | exact P5 | exact P6 | exact P7 | exact P8 | exact P9 | exact P10 | exact P11 | exact P12 | exact P13 | exact P14 | exact P15 | exact P16 | exact P17 | exact P18 | exact P19 | exact P20 | exact P21 | exact P22 | exact P23)) | (apply Part.nilc)))
    intro h1_8
    refine SPL_y (y_pick_t rfl rfl) rfl ?_
    refine SPL_nil ?_
    refine thenP_n ?_
    refine SP_cond_f rfl ?_
    refine SP_exit ?_
    refine thenP_exit ?_
    refine thenP_exit ?_
    refine inBlockP_hit ?_
    refine thenP_n ?_
    refine SP_seq ?_
    refine SP_region ?_
    refine SPL_y (y_move rfl) rfl ?_
    refine SPL_y (y_assign rfl) rfl ?_
    refine SPL_nil ?_
    refine thenP_n ?_
    refine SP_ret ?_
    refine bodyP_ret (H' := [s]) (Res1 rfl rfl) (by repeat (first | exact Part.nil _ | (apply Part.cons; with_reducible (first | exact P0 | exact P1 | exact P2 | exact P3 | exact P4 | exact P5 | exact P6 | exact P7 | exact P8 | exact P9 | exact P10 | exact P11 | exact P12 | exact P13 | exact P14 | exact P15 | exact P16 | exact P17 | exact P18 | exact P19 | exact P20 | exact P21 | exact P22 | exact P23)) | (apply Part.flat; simp only [List.cons_append, List.nil_append]) | (apply Part.cons; (first | exact P0 | exact P1 | exact P2 | exact P3 | exact P4 | exact P5 | exact P6 | exact P7 | exact P8 | exact P9 | exact P10 | exact P11 | exact P12 | exact P13 | exact P14 | exact P15 | exact P16 | exact P17 | exact P18 | exact P19 | exact P20 | exact P21 | exact P22 | exact P23)) | (apply Part.nilc))) ?_
    rw [if_pos (Decidable.not_not.1 h1_8)] at hf
    injection hf with hf
    subst hf
    exact ⟨rfl, rfl⟩

theorem fill_env (t : List UInt8) (a : Option Addr) : Instr.fill (fun i => [(0, 1), (1, 3), (4, 1)][i]?) [Value.string ⟨⟨[]⟩⟩, .int .i64 0, .int .u64 0, .string ⟨⟨[]⟩⟩, .pointer none].toArray [(0, S t), (2, .pointer a)] = some [S t, I 0, .int .u64 0, S [], .pointer a].toArray := rfl
theorem newPt {eb : List Nat} {n b : Nat} (h : eb.length = n) : Value.pointer (some ⟨b, 0, none⟩) = ePt (eb ++ [b]) (some n) := by
  show ptr b = ptr ((eb ++ [b]).getD n 0)
  rw [List.getD_eq_getElem?_getD, ← h, List.getElem?_concat_length]; rfl
theorem getD_at' {l : List V} {i : Nat} (h : i < l.length) : l.getD i V.nil = l[i] := by rw [List.getD_eq_getElem?_getD, List.getElem?_eq_getElem h]; rfl
theorem getD_no {l : List V} {i : Nat} (h : ¬ i < l.length) : l.getD i V.nil = V.nil := by rw [List.getD_eq_getElem?_getD, List.getElem?_eq_none (by omega)]; rfl
theorem ndG_env {m : RnM} {n : Int} (es : List EvM) : ndG { m with envs := es } n = ndG m n := rfl
theorem cm_enter (x : RX) (eb hb : List Nat) {m m' : RnM} {c : Nat} {args : List V} {prot : Int} (av : Value) (sgA : Seg) (hA0 : ArgR av args sgA) (hP : renter c args prot m = some m') (s : Seg) (hM : isRm x eb hb m s) : Spec Tryz.prog 64 [ptr x.b, I c, av, I prot] [s, sgA] (Ret fun v H => v = .tuple #[] ∧ ∃ eb' s', eb <+: eb' ∧ isRm x eb' hb m' s' ∧ H = [s', sgA]) := by
  obtain ⟨aa, acp, rfl, hal, hac⟩ := hA0
  unfold renter at hP
  have hg : curOk m ∧ (thG m).vals.length ≤ 1000000 ∧ (-1000000000 ≤ (thG m).depth ∧ (thG m).depth ≤ 1000000000) ∧ (0 ≤ (c : Int) ∧ (c : Int) < m.clos.length ∧ m.clos.length ≤ 1000) := Decidable.byContradiction fun q => by rw [if_pos q] at hP; cases hP
  rw [if_neg (fun q => q hg)] at hP
  obtain ⟨⟨hq1, hq2⟩, hq4, hq5, hq6⟩ := hg
  obtain ⟨c0, hcc⟩ : ∃ c : Nat, m.cur = c := ⟨m.cur.toNat, by omega⟩
  have hc : c0 < m.ths.length := by omega
  have hth := thG_eq hcc hc
  rw [hth] at hq4 hq5
  rw [Int.toNat_natCast] at hP
  obtain ⟨ca, cc, hk, hc', hsp, s0, s1, s2, s3, s4, sX, sA, sZ, R, ta, tc, va, vc, sa, sv, rfl, hstk, hhl, hTA, hVA, hTS, hput⟩ := isRm_open hM hc
  refine Spec_openAt [blk x.b 142 [ptr x.nb, ptr x.tb, Value.slice x.na m.nodes.length x.nc, I m.root, Value.slice ca m.clos.length cc, Value.slice (some ⟨hk, 0, none⟩) m.ths.length hc', I s0, I s1, I s2, I s3, I s4, I m.sp, I m.cur, I m.fuel, I m.first, S m.out, .bool m.done, I m.ans.e, I m.ans.n, I m.ans.m, S m.ans.s, S m.ans.t], sX, blk hk 149 (hb.map ptr ++ hsp), sA, List.flatten [blk (hb.getD c0 0) 152 [I m.ths[c0].st, I m.ths[c0].fn, I (m.ths[c0].depth), Value.slice ta (m.ths[c0].tasks.length) tc, Value.slice va (m.ths[c0].vals.length) vc], sa, sv], sZ, R] (by first | exact P0 | exact P1 | exact P2 | exact P3 | exact P4 | exact P5 | exact P6 | exact P7 | exact P8 | exact P9 | exact P10 | exact P11 | exact P12 | exact P13 | exact P14 | exact P15 | exact P16 | exact P17 | exact P18 | exact P19 | exact P20 | exact P21 | exact P22 | exact P23) ?_
  simp only [List.cons_append, List.nil_append]
  refine Spec_openAt [blk (hb.getD c0 0) 152 [I m.ths[c0].st, I m.ths[c0].fn, I (m.ths[c0].depth), Value.slice ta (m.ths[c0].tasks.length) tc, Value.slice va (m.ths[c0].vals.length) vc], sa, sv] (by first | exact P0 | exact P1 | exact P2 | exact P3 | exact P4 | exact P5 | exact P6 | exact P7 | exact P8 | exact P9 | exact P10 | exact P11 | exact P12 | exact P13 | exact P14 | exact P15 | exact P16 | exact P17 | exact P18 | exact P19 | exact P20 | exact P21 | exact P22 | exact P23) ?_
  simp only [List.cons_append, List.nil_append]
  have hcell : ∀ H : Hp, Cell (blk hk 149 (hb.map ptr ++ hsp) :: H) hk (0 + ((c0 : Nat) : Int).toNat * 1) (ptr (hb.getD c0 0)) := fun H => Cell.head (hb_at hhl hc)
  rw [hcc]
  refine Spec_enter Tryz.func64 rfl Tryz.ntmps64 rfl ?_
  show SP _ _ _ _ _ [(0, _), (1, _), (2, _), (3, _)] _
  refine SP_seq ?_
  refine SP_draw 999 [(0, 0), (1, 0), (2, 0), (4, 0), (5, 0), (6, 0), (3, 1), (7, 1), (8, 0), (9, 1), (10, 0)] mixed (by kernel_rfl) (fun _ _ _ _ _ h => h) (Part.refl _) ?_
  refine SPO_p rfl (y_move rfl) rfl ?_
  refine SPO_p rfl (y_nil rfl) rfl ?_
  refine SPO_p rfl (y_fa fld_142_5 rfl) rfl ?_
  refine SPO_p rfl (y_move rfl) rfl ?_
  refine SPO_p rfl (y_nil rfl) rfl ?_
  refine SPO_p rfl (y_fa fld_142_8 rfl) rfl ?_
  refine SPO_h rfl (y_load Tryz.isAgg139 rfl (by repeat (first | exact Cell.amid hpre rfl | exact Cell.head rfl | apply Cell.tail))) rfl ?_
  refine SPO_h rfl (y_load Tryz.isAgg3 rfl (by repeat (first | exact Cell.amid hpre rfl | exact Cell.head rfl | apply Cell.tail))) rfl ?_
  refine SPO_p rfl (y_ia Tryz.underlying139 Tryz.sizeOf149 rfl rfl (by omega)) rfl ?_
  refine SPO_h rfl (y_load Tryz.isAgg149 rfl (by repeat (first | exact hcell _ | apply Cell.tail))) rfl ?_
  refine SPO_p rfl (y_assign rfl) rfl ?_
  refine SPO_nil ?_
  refine thenP_n ?_
  refine SP_seq ?_
  refine SP_region ?_
  refine SPL_y (y_move rfl) rfl ?_
  refine SPL_y (y_nil rfl) rfl ?_
  refine SPL_y (y_fa fld_152_2 rfl) rfl ?_
  refine SPL_y (y_load Tryz.isAgg3 rfl (by repeat (first | exact Cell.amid hpre rfl | exact Cell.head rfl | apply Cell.tail))) rfl ?_
  refine SPL_y (y_add rfl rfl (by omega)) rfl ?_
  refine SPL_y (y_nil rfl) rfl ?_
  refine SPL_y (y_fa fld_152_2 rfl) rfl ?_
  refine SPL_one rfl (SP1_store Tryz.sizeOf3 rfl rfl rfl (by first | exact U0 | exact U1 | exact U2 | exact U3 | exact U4 | exact U5 | exact U6 | exact U7 | exact U8 | exact U9 | exact U10 | exact U11 | exact U12 | exact U13 | exact U14 | exact U15 | exact U16 | exact U17 | exact U18 | exact U19 | exact U20 | exact U21 | exact U22 | exact U23) (by rfl) ?_)
  refine SPL_nil ?_
  refine thenP_n ?_
  refine SP_seq ?_
  refine SP_region ?_
  refine SPL_y (y_move rfl) rfl ?_
  refine SPL_y (y_move rfl) rfl ?_
  refine SPL_y (y_move rfl) rfl ?_
  refine SPL_y (y_nil rfl) rfl ?_
  refine SPL_y (y_fa fld_152_4 rfl) rfl ?_
  refine SPL_y (y_load Tryz.isAgg90 rfl (by repeat (first | exact Cell.amid hpre rfl | exact Cell.head rfl | apply Cell.tail))) rfl ?_
  refine SPL_y (y_len_l Tryz.underlying90 rfl) rfl ?_
  have hM1 : isRm x eb hb (rset m { m.ths[c0] with depth := m.ths[c0].depth + 1 }) (List.flatten [blk x.b 142 [ptr x.nb, ptr x.tb, Value.slice x.na m.nodes.length x.nc, I m.root, Value.slice ca m.clos.length cc, Value.slice (some ⟨hk, 0, none⟩) m.ths.length hc', I s0, I s1, I s2, I s3, I s4, I m.sp, I (c0 : Int), I m.fuel, I m.first, S m.out, .bool m.done, I m.ans.e, I m.ans.n, I m.ans.m, S m.ans.s, S m.ans.t], sX, blk hk 149 (hb.map ptr ++ hsp), sA, List.flatten [blk (hb.getD c0 0) 152 [I m.ths[c0].st, I m.ths[c0].fn, I (m.ths[c0].depth + 1), Value.slice ta (m.ths[c0].tasks.length) tc, Value.slice va (m.ths[c0].vals.length) vc], sa, sv], sZ, R]) := by
    have := hput (rset m { m.ths[c0] with depth := m.ths[c0].depth + 1 }) s0 s1 s2 s3 s4 ({ m.ths[c0] with depth := m.ths[c0].depth + 1 }) ta tc va vc sa sv (m.ths[c0].tasks.length) (m.ths[c0].vals.length) rfl rfl rfl ?_ rfl rfl hstk rfl rfl (hTA) (hVA) (hTS)
    · rw [← hcc]; exact this
    · unfold rset; rw [hcc]; rfl
  obtain ⟨m2, hq2, hP⟩ := bnd1 hP
  rw [hth] at hq2
  refine SPL_one rfl (SP1_call (cm_do x eb hb hq2 _ hM1) Tryz.call95 rfl rfl (by repeat (first | exact Part.nil _ | (apply Part.cons; with_reducible (first | exact P0 | exact P1 | exact P2 | exact P3 | exact P4 | exact P5 | exact P6 | exact P7 | exact P8 | exact P9 | exact P10 | exact P11 | exact P12 | exact P13 | exact P14 | exact P15 | exact P16 | exact P17 | exact P18 | exact P19 | exact P20 | exact P21 | exact P22 | exact P23)) | (apply Part.flat; simp only [List.cons_append, List.nil_append]) | (apply Part.cons; (first | exact P0 | exact P1 | exact P2 | exact P3 | exact P4 | exact P5 | exact P6 | exact P7 | exact P8 | exact P9 | exact P10 | exact P11 | exact P12 | exact P13 | exact P14 | exact P15 | exact P16 | exact P17 | exact P18 | exact P19 | exact P20 | exact P21 | exact P22 | exact P23)) | (apply Part.nilc))) ?_)
  rintro v post H' ⟨rfl, sg2, hM2, rfl⟩ hH
  try simp only [List.cons_append, List.nil_append] at hH
  subst hH
  have hcl2 : m2.clos = m.clos ∧ m2.nodes = m.nodes ∧ m2.envs = m.envs ∧ m2.root = m.root := by
    unfold rdo at hq2
    split at hq2
    · injection hq2 with hq2; subst hq2; exact ⟨rfl, rfl, rfl, rfl⟩
    · cases hq2
  cases hcv : m2.clos[c]? with
  | none => rw [hcv] at hP; cases hP
  | some pr =>
  obtain ⟨node, e0⟩ := pr
  rw [hcv] at hP
  dsimp only at hP
  obtain ⟨hcl, hcv2⟩ := List.getElem?_eq_some_iff.1 hcv
  cases hnd : ndG m2 node with
  | none => rw [hnd] at hP; cases hP
  | some d0 =>
  rw [hnd] at hP
  dsimp only at hP
  obtain ⟨j0, rfl, hj0, hd0, hnl⟩ := ndG_some hnd
  obtain ⟨e9, m9, hpar, hP⟩ := bnd2 hP
  obtain ⟨ck, ccp, hcS, hcC⟩ := hM2.clo hcl
  have hcE : ∀ H : Hp, Cell (sg2 :: H) ck (0 + ((c : Nat) : Int).toNat * 2 + 1) (ePt eb e0) := fun H => by have := (hcC H).cell (j := 1) (v := ePt eb e0) (by rw [hcv2]; rfl); simpa using this
  have hcN : ∀ H : Hp, Cell (sg2 :: H) ck (0 + ((c : Nat) : Int).toNat * 2 + 0) (I (j0 : Int)) := fun H => by have := (hcC H).cell (j := 0) (v := I (j0 : Int)) (by rw [hcv2]; rfl); simpa using this
  obtain ⟨nk, hnk, hnc⟩ := hM2.node hj0
  rw [hd0] at hnc
  have hnS := hM2.cNodes
  rw [hnk] at hnS
  have hnB : ∀ H : Hp, Cell (sg2 :: H) nk (0 + ((j0 : Nat) : Int).toNat * 8 + 2) (I d0.b) := fun H => by have := (hnc H).cell (j := 2) (v := I d0.b) rfl; simpa using this
  have hnA : ∀ H : Hp, Cell (sg2 :: H) nk (0 + ((j0 : Nat) : Int).toNat * 8 + 1) (I d0.a) := fun H => by have := (hnc H).cell (j := 1) (v := I d0.a) rfl; simpa using this
  have hroot := hM2.cRoot
  have he0 : eIn eb.length e0 := hM2.sc.cl ((j0 : Int), e0) (by rw [← hcv2]; exact List.getElem_mem hcl)
  refine SPL_nil ?_
  refine thenP_n ?_
  refine SP_seq ?_
  refine SP_region ?_
  refine SPL_y (y_move rfl) rfl ?_
  refine SPL_y (y_nil rfl) rfl ?_
  refine SPL_y (y_fa fld_142_4 rfl) rfl ?_
  refine SPL_y (y_load Tryz.isAgg138 rfl (by repeat (first | exact hcS _ | apply Cell.tail))) rfl ?_
  refine SPL_y (y_move rfl) rfl ?_
  refine SPL_y (y_ia Tryz.underlying138 Tryz.sizeOf148 rfl rfl (by omega)) rfl ?_
  refine SPL_y (y_fa fld_148_1 rfl) rfl ?_
  refine SPL_y (y_load Tryz.isAgg146 rfl (by repeat (first | exact hcE _ | apply Cell.tail))) rfl ?_
  refine SPL_y (y_assign rfl) rfl ?_
  refine SPL_nil ?_
  refine thenP_n ?_
  refine SP_seq ?_
  refine SP_region ?_
  refine SPL_y (y_move rfl) rfl ?_
  refine SPL_y (y_nil rfl) rfl ?_
  refine SPL_y (y_fa fld_142_4 rfl) rfl ?_
  refine SPL_y (y_load Tryz.isAgg138 rfl (by repeat (first | exact hcS _ | apply Cell.tail))) rfl ?_
  refine SPL_y (y_move rfl) rfl ?_
  refine SPL_y (y_ia Tryz.underlying138 Tryz.sizeOf148 rfl rfl (by omega)) rfl ?_
  refine SPL_y (y_fa fld_148_0 rfl) rfl ?_
  refine SPL_y (y_load Tryz.isAgg3 rfl (by repeat (first | exact hcN _ | apply Cell.tail))) rfl ?_
  refine SPL_y (y_assign rfl) rfl ?_
  refine SPL_nil ?_
  refine thenP_n ?_
  refine SP_seq ?_
  refine SP_region ?_
  refine SPL_y (y_move rfl) rfl ?_
  refine SPL_y (y_nil rfl) rfl ?_
  refine SPL_y (y_fa fld_142_2 rfl) rfl ?_
  refine SPL_y (y_load Tryz.isAgg65 rfl (by repeat (first | exact hnS _ | apply Cell.tail))) rfl ?_
  refine SPL_y (y_move rfl) rfl ?_
  refine SPL_y (y_ia Tryz.underlying65 Tryz.sizeOf158 rfl rfl (by omega)) rfl ?_
  refine SPL_y (y_fa fld_158_2 rfl) rfl ?_
  refine SPL_y (y_load Tryz.isAgg3 rfl (by repeat (first | exact hnB _ | apply Cell.tail))) rfl ?_
  refine SPL_y (y_assign rfl) rfl ?_
  refine SPL_nil ?_
  refine thenP_n ?_
  refine SP_mid (G := Int) (fun bd => [(0, ptr x.b), (2, .slice aa args.length acp), (9, ePt eb e0), (10, I (j0 : Int)), (11, I bd)]) (fun _ => [sg2, sgA]) (fun bd => bd = (if (j0 : Int) = 0 then m.root else d0.b)) ?_ ?_
  · refine SP_seq ?_
    refine SP_region ?_
    refine SPL_y (y_move rfl) rfl ?_
    refine SPL_ifn (y_eql rfl rfl) rfl ?_ ?_
    · intro h6_1
      refine SPL_nil ?_
      refine thenP_n ?_
      refine SP_cond_f rfl ?_
      refine SP_skip ?_
      refine thenP_n ?_
      exact Mid.intro (d0.b) (by rw [if_neg h6_1]) (by repeat (first | exact Sub.nil _ | refine Sub.cons rfl ?_)) (by repeat (first | exact Part.nil _ | (apply Part.cons; with_reducible (first | exact P0 | exact P1 | exact P2 | exact P3 | exact P4 | exact P5 | exact P6 | exact P7 | exact P8 | exact P9 | exact P10 | exact P11 | exact P12 | exact P13 | exact P14 | exact P15 | exact P16 | exact P17 | exact P18 | exact P19 | exact P20 | exact P21 | exact P22 | exact P23)) | (apply Part.flat; simp only [List.cons_append, List.nil_append]) | (apply Part.cons; (first | exact P0 | exact P1 | exact P2 | exact P3 | exact P4 | exact P5 | exact P6 | exact P7 | exact P8 | exact P9 | exact P10 | exact P11 | exact P12 | exact P13 | exact P14 | exact P15 | exact P16 | exact P17 | exact P18 | exact P19 | exact P20 | exact P21 | exact P22 | exact P23)) | (apply Part.nilc)))
    intro h6_1
    refine SPL_nil ?_
    refine thenP_n ?_
    refine SP_cond_t rfl ?_
    refine SP_region ?_
    refine SPL_y (y_move rfl) rfl ?_
    refine SPL_y (y_nil rfl) rfl ?_
    refine SPL_y (y_fa fld_142_3 rfl) rfl ?_
    refine SPL_y (y_load Tryz.isAgg3 rfl (by repeat (first | exact hroot _ | apply Cell.tail))) rfl ?_
    refine SPL_y (y_assign rfl) rfl ?_
    refine SPL_nil ?_
    refine thenP_n ?_
    exact Mid.intro (m2.root) (by rw [if_pos h6_1, hcl2.2.2.2]) (by repeat (first | exact Sub.nil _ | refine Sub.cons rfl ?_)) (by repeat (first | exact Part.nil _ | (apply Part.cons; with_reducible (first | exact P0 | exact P1 | exact P2 | exact P3 | exact P4 | exact P5 | exact P6 | exact P7 | exact P8 | exact P9 | exact P10 | exact P11 | exact P12 | exact P13 | exact P14 | exact P15 | exact P16 | exact P17 | exact P18 | exact P19 | exact P20 | exact P21 | exact P22 | exact P23)) | (apply Part.flat; simp only [List.cons_append, List.nil_append]) | (apply Part.cons; (first | exact P0 | exact P1 | exact P2 | exact P3 | exact P4 | exact P5 | exact P6 | exact P7 | exact P8 | exact P9 | exact P10 | exact P11 | exact P12 | exact P13 | exact P14 | exact P15 | exact P16 | exact P17 | exact P18 | exact P19 | exact P20 | exact P21 | exact P22 | exact P23)) | (apply Part.nilc)))
  rintro body hbody
  rw [← hbody] at hP
  refine SP_seq ?_
  refine SP_region ?_
  refine SPL_y (y_assign rfl) rfl ?_
  refine SPL_nil ?_
  refine thenP_n ?_
  refine SP_seq ?_
  refine SP_seq ?_
  refine SP_region ?_
  refine SPL_y (y_move rfl) rfl ?_
  refine SPL_y (y_nil rfl) rfl ?_
  refine SPL_y (y_fa fld_142_2 rfl) rfl ?_
  refine SPL_y (y_load Tryz.isAgg65 rfl (by repeat (first | exact hnS _ | apply Cell.tail))) rfl ?_
  refine SPL_y (y_move rfl) rfl ?_
  refine SPL_y (y_ia Tryz.underlying65 Tryz.sizeOf158 rfl rfl (by omega)) rfl ?_
  refine SPL_y (y_fa fld_158_1 rfl) rfl ?_
  refine SPL_y (y_load Tryz.isAgg3 rfl (by repeat (first | exact hnA _ | apply Cell.tail))) rfl ?_
  refine SPL_y (y_assign rfl) rfl ?_
  refine SPL_nil ?_
  refine thenP_n ?_
  refine SP_block ?_
  refine SP_loop (G := Nat × Int × Nat × Option Nat × List Nat × RnM × Seg) (fun g => g.1) (fun g => [(0, ptr x.b), (2, .slice aa args.length acp), (9, ePt g.2.2.2.2.1 g.2.2.2.1), (11, I body), (12, I (g.2.2.1 : Int)), (13, I g.2.1)]) (fun g => [g.2.2.2.2.2.2, sgA]) (fun g => isRm x g.2.2.2.2.1 hb g.2.2.2.2.2.1 g.2.2.2.2.2.2 ∧ parL g.1 g.2.1 g.2.2.1 args g.2.2.2.1 g.2.2.2.2.2.1 = some (e9, m9) ∧ eb <+: g.2.2.2.2.1 ∧ eIn g.2.2.2.2.1.length g.2.2.2.1 ∧ g.2.2.1 + g.1 ≤ 1000 ∧ True) ((1000, d0.a, 0, e0, eb, m2, sg2)) (⟨hM2, hpar, List.prefix_refl _, he0, by dsimp only; omega, trivial⟩) (by repeat (first | exact Sub.nil _ | refine Sub.cons rfl ?_)) (by repeat (first | exact Part.nil _ | (apply Part.cons; with_reducible (first | exact P0 | exact P1 | exact P2 | exact P3 | exact P4 | exact P5 | exact P6 | exact P7 | exact P8 | exact P9 | exact P10 | exact P11 | exact P12 | exact P13 | exact P14 | exact P15 | exact P16 | exact P17 | exact P18 | exact P19 | exact P20 | exact P21 | exact P22 | exact P23)) | (apply Part.flat; simp only [List.cons_append, List.nil_append]) | (apply Part.cons; (first | exact P0 | exact P1 | exact P2 | exact P3 | exact P4 | exact P5 | exact P6 | exact P7 | exact P8 | exact P9 | exact P10 | exact P11 | exact P12 | exact P13 | exact P14 | exact P15 | exact P16 | exact P17 | exact P18 | exact P19 | exact P20 | exact P21 | exact P22 | exact P23)) | (apply Part.nilc))) ?_
  clear hpar
  rintro ⟨f0, p, i, e1, eb1, m3, sg3⟩ ⟨hM3, hpar, hpre, hei, hi, hnn⟩
  dsimp only at hM3 hpar hpre hei hi hnn ⊢
  cases f0 with
  | zero => cases hpar
  | succ f =>
  rw [parL] at hpar
  refine SP_seq ?_
  refine SP_seq ?_
  refine SP_region ?_
  refine SPL_y (y_move rfl) rfl ?_
  refine SPL_ifn (y_neq rfl rfl) rfl ?_ ?_
  · intro h10_1
    refine SPL_nil ?_
    refine thenP_n ?_
    refine SP_cond_f rfl ?_
    refine SP_exit ?_
    refine thenP_exit ?_
    refine thenP_exit ?_
    refine inBlockP_hit ?_
    refine thenP_n ?_
    rw [if_pos (Decidable.not_not.1 h10_1)] at hpar
    injection hpar with hpar
    injection hpar with hp1 hp2
    subst hp1
    subst hp2
    refine SP_region ?_
    refine SPL_y (y_move rfl) rfl ?_
    refine SPL_y (y_move rfl) rfl ?_
    refine SPL_y (y_move rfl) rfl ?_
    obtain ⟨e10, m10, hz⟩ : ∃ e10 m10, True := ⟨e1, m3, trivial⟩
    refine SPL_one rfl (SP1_call (cm_do x eb1 hb (y := 0) hP _ hM3) Tryz.call95 rfl rfl (by repeat (first | exact Part.nil _ | (apply Part.cons; with_reducible (first | exact P0 | exact P1 | exact P2 | exact P3 | exact P4 | exact P5 | exact P6 | exact P7 | exact P8 | exact P9 | exact P10 | exact P11 | exact P12 | exact P13 | exact P14 | exact P15 | exact P16 | exact P17 | exact P18 | exact P19 | exact P20 | exact P21 | exact P22 | exact P23)) | (apply Part.flat; simp only [List.cons_append, List.nil_append]) | (apply Part.cons; (first | exact P0 | exact P1 | exact P2 | exact P3 | exact P4 | exact P5 | exact P6 | exact P7 | exact P8 | exact P9 | exact P10 | exact P11 | exact P12 | exact P13 | exact P14 | exact P15 | exact P16 | exact P17 | exact P18 | exact P19 | exact P20 | exact P21 | exact P22 | exact P23)) | (apply Part.nilc))) ?_)
    rintro v post H' ⟨rfl, sg17, hM17, rfl⟩ hH
    try simp only [List.cons_append, List.nil_append] at hH
    subst hH
    refine SPL_nil ?_
    refine bodyP_end (H' := [sg17, sgA]) (Res0 rfl) (by repeat (first | exact Part.nil _ | (apply Part.cons; with_reducible (first | exact P0 | exact P1 | exact P2 | exact P3 | exact P4 | exact P5 | exact P6 | exact P7 | exact P8 | exact P9 | exact P10 | exact P11 | exact P12 | exact P13 | exact P14 | exact P15 | exact P16 | exact P17 | exact P18 | exact P19 | exact P20 | exact P21 | exact P22 | exact P23)) | (apply Part.flat; simp only [List.cons_append, List.nil_append]) | (apply Part.cons; (first | exact P0 | exact P1 | exact P2 | exact P3 | exact P4 | exact P5 | exact P6 | exact P7 | exact P8 | exact P9 | exact P10 | exact P11 | exact P12 | exact P13 | exact P14 | exact P15 | exact P16 | exact P17 | exact P18 | exact P19 | exact P20 | exact P21 | exact P22 | exact P23)) | (apply Part.nilc))) ?_
    exact ⟨rfl, eb1, _, hpre, hM17, rfl⟩
  intro h10_1
  refine SPL_nil ?_
  refine thenP_n ?_
  refine SP_cond_t rfl ?_
  refine SP_skip ?_
  refine thenP_n ?_
  refine SP_seq ?_
  refine SP_block ?_
  refine SP_seq ?_
  rw [if_neg h10_1] at hpar
  cases hndp : ndG m3 p with
  | none => rw [hndp] at hpar; cases hpar
  | some d =>
  rw [hndp] at hpar
  dsimp only at hpar
  obtain ⟨j, rfl, hj, hd, hnl3⟩ := ndG_some hndp
  obtain ⟨nk3, hnk3, hnc3⟩ := hM3.node hj
  rw [hd] at hnc3
  have hnS3 := hM3.cNodes
  rw [hnk3] at hnS3
  have hnT : ∀ H : Hp, Cell (sg3 :: H) nk3 (0 + ((j : Nat) : Int).toNat * 8 + 6) (S d.s) := fun H => by have := (hnc3 H).cell (j := 6) (v := S d.s) rfl; simpa using this
  refine SP_region ?_
  refine SPL_y (y_move rfl) rfl ?_
  refine SPL_y (y_nil rfl) rfl ?_
  refine SPL_y (y_fa fld_142_2 rfl) rfl ?_
  refine SPL_y (y_load Tryz.isAgg65 rfl (by repeat (first | exact hnS3 _ | apply Cell.tail))) rfl ?_
  refine SPL_y (y_move rfl) rfl ?_
  refine SPL_y (y_ia Tryz.underlying65 Tryz.sizeOf158 rfl rfl (by omega)) rfl ?_
  refine SPL_y (y_fa fld_158_6 rfl) rfl ?_
  refine SPL_y (y_load Tryz.isAgg9 rfl (by repeat (first | exact hnT _ | apply Cell.tail))) rfl ?_
  refine SPL_y (y_move rfl) rfl ?_
  refine SPL_y (y_buildN (l := [S d.s, I 0, .int .u64 0, S [], ePt eb1 e1]) BN204 rfl (fill_env d.s _)) rfl ?_
  refine SPL_one rfl (SP1_box rfl rfl rfl ?_)
  intro b98
  refine SPL_y (y_assign rfl) rfl ?_
  refine SPL_nil ?_
  refine thenP_n ?_
  refine SP_seq ?_
  refine SP_seq ?_
  refine SP_region ?_
  refine SPL_y (y_move rfl) rfl ?_
  refine SPL_y (y_move rfl) rfl ?_
  refine SPL_y (y_len_l Tryz.underlying90 rfl) rfl ?_
  refine SPL_ifn (y_lss rfl rfl) rfl ?_ ?_
  · intro h13_3
    refine SPL_nil ?_
    refine thenP_n ?_
    refine SP_cond_f rfl ?_
    refine SP_skip ?_
    refine thenP_n ?_
    refine SP_seq ?_
    have hgv : args.getD i V.nil = V.nil := getD_no (by omega)
    obtain ⟨sg4, hM4, hpt⟩ := isRm_new hM3 b98 (e := ⟨d.s, V.nil, e1⟩) hei
    refine SP_part (H' := [sg3, blk b98 204 (evV eb1 ⟨d.s, V.nil, e1⟩), sgA]) (by repeat (first | exact Part.nil _ | (apply Part.cons; with_reducible (first | exact P0 | exact P1 | exact P2 | exact P3 | exact P4 | exact P5 | exact P6 | exact P7 | exact P8 | exact P9 | exact P10 | exact P11 | exact P12 | exact P13 | exact P14 | exact P15 | exact P16 | exact P17 | exact P18 | exact P19 | exact P20 | exact P21 | exact P22 | exact P23)) | (apply Part.flat; simp only [List.cons_append, List.nil_append]) | (apply Part.cons; (first | exact P0 | exact P1 | exact P2 | exact P3 | exact P4 | exact P5 | exact P6 | exact P7 | exact P8 | exact P9 | exact P10 | exact P11 | exact P12 | exact P13 | exact P14 | exact P15 | exact P16 | exact P17 | exact P18 | exact P19 | exact P20 | exact P21 | exact P22 | exact P23)) | (apply Part.nilc))) ?_
    refine SP_part (hpt [sgA]) ?_
    have hel3 := hM3.sc.el
    rw [newPt (eb := eb1) (n := m3.envs.length) hel3]
    obtain ⟨nk4, hnk4, hnc4⟩ := hM4.node hj
    replace hnc4 : ∀ H : Hp, Cells (sg4 :: H) nk4 (0 + j * 8) (ndV d) := fun H => by rw [← hd]; exact hnc4 H
    have hnS4 : ∀ H : Hp, Cell (sg4 :: H) x.b (0 + 2) (.slice x.na m3.nodes.length x.nc) := hM4.cNodes
    rw [hnk4] at hnS4
    have hnN : ∀ H : Hp, Cell (sg4 :: H) nk4 (0 + ((j : Nat) : Int).toNat * 8 + 4) (I d.next) := fun H => by have := (hnc4 H).cell (j := 4) (v := I d.next) rfl; simpa using this
    refine SP_region ?_
    refine SPL_y (y_move rfl) rfl ?_
    refine SPL_y (y_assign rfl) rfl ?_
    refine SPL_nil ?_
    refine thenP_n ?_
    refine SP_region ?_
    refine SPL_y (y_move rfl) rfl ?_
    refine SPL_y (y_add rfl rfl (by omega)) rfl ?_
    refine SPL_y (y_assign rfl) rfl ?_
    refine SPL_nil ?_
    refine inBlockP_n ?_
    refine thenP_n ?_
    refine SP_region ?_
    refine SPL_y (y_move rfl) rfl ?_
    refine SPL_y (y_nil rfl) rfl ?_
    refine SPL_y (y_fa fld_142_2 rfl) rfl ?_
    refine SPL_y (y_load Tryz.isAgg65 rfl (by repeat (first | exact hnS4 _ | apply Cell.tail))) rfl ?_
    refine SPL_y (y_move rfl) rfl ?_
    refine SPL_y (y_ia Tryz.underlying65 Tryz.sizeOf158 rfl rfl (by omega)) rfl ?_
    refine SPL_y (y_fa fld_158_4 rfl) rfl ?_
    refine SPL_y (y_load Tryz.isAgg3 rfl (by repeat (first | exact hnN _ | apply Cell.tail))) rfl ?_
    refine SPL_y (y_assign rfl) rfl ?_
    refine SPL_nil ?_
    refine thenP_n ?_
    exact Again.intro ((f, d.next, i + 1, some m3.envs.length, eb1 ++ [b98], { m3 with envs := m3.envs ++ [⟨d.s, args.getD i V.nil, e1⟩] }, sg4)) (⟨by rw [hgv]; exact hM4, hpar, hpre.trans (List.prefix_append _ _), (fun z hz => by injection hz with hz; subst hz; simp; omega), by dsimp only; omega, trivial⟩) (by dsimp only; omega) (by repeat (first | exact Sub.nil _ | refine Sub.cons rfl ?_)) (by repeat (first | exact Part.nil _ | (apply Part.cons; with_reducible (first | exact P0 | exact P1 | exact P2 | exact P3 | exact P4 | exact P5 | exact P6 | exact P7 | exact P8 | exact P9 | exact P10 | exact P11 | exact P12 | exact P13 | exact P14 | exact P15 | exact P16 | exact P17 | exact P18 | exact P19 | exact P20 | exact P21 | exact P22 | exact P23)) | (apply Part.flat; simp only [List.cons_append, List.nil_append]) | (apply Part.cons; (first | exact P0 | exact P1 | exact P2 | exact P3 | exact P4 | exact P5 | exact P6 | exact P7 | exact P8 | exact P9 | exact P10 | exact P11 | exact P12 | exact P13 | exact P14 | exact P15 | exact P16 | exact P17 | exact P18 | exact P19 | exact P20 | exact P21 | exact P22 | exact P23)) | (apply Part.nilc)))
  intro h13_3
  refine SPL_nil ?_
  refine thenP_n ?_
  refine SP_cond_t rfl ?_
  have hil : i < args.length := by omega
  obtain ⟨ab, ao, rfl, hcA⟩ := hac i hil
  refine SP_region ?_
  refine SPL_y (y_move rfl) rfl ?_
  refine SPL_y (y_move rfl) rfl ?_
  refine SPL_y (y_move rfl) rfl ?_
  refine SPL_y (y_ia Tryz.underlying90 Tryz.sizeOf42 rfl rfl (by omega)) rfl ?_
  refine SPL_y (y_loads Tryz.isAgg42 Tryz.sizeOf42 rfl rfl (by repeat (first | exact hcA _ | apply Cells.tail))) rfl ?_
  refine SPL_y (y_nil rfl) rfl ?_
  refine SPL_y (y_fa fld_204_1 rfl) rfl ?_
  refine SPL_one rfl (SP1_storesAt Tryz.sizeOf42 rfl rfl rfl rfl rfl (by first | exact U0 | exact U1 | exact U2 | exact U3 | exact U4 | exact U5 | exact U6 | exact U7 | exact U8 | exact U9 | exact U10 | exact U11 | exact U12 | exact U13 | exact U14 | exact U15 | exact U16 | exact U17 | exact U18 | exact U19 | exact U20 | exact U21 | exact U22 | exact U23) (by rfl) ?_)
  refine SPL_nil ?_
  refine thenP_n ?_
  refine SP_seq ?_
  have hgv : args.getD i V.nil = args[i] := getD_at' (by omega)
  obtain ⟨sg4, hM4, hpt⟩ := isRm_new hM3 b98 (e := ⟨d.s, args[i], e1⟩) hei
  refine SP_part (H' := [sg3, blk b98 204 (evV eb1 ⟨d.s, args[i], e1⟩), sgA]) (by repeat (first | exact Part.nil _ | (apply Part.cons; with_reducible (first | exact P0 | exact P1 | exact P2 | exact P3 | exact P4 | exact P5 | exact P6 | exact P7 | exact P8 | exact P9 | exact P10 | exact P11 | exact P12 | exact P13 | exact P14 | exact P15 | exact P16 | exact P17 | exact P18 | exact P19 | exact P20 | exact P21 | exact P22 | exact P23)) | (apply Part.flat; simp only [List.cons_append, List.nil_append]) | (apply Part.cons; (first | exact P0 | exact P1 | exact P2 | exact P3 | exact P4 | exact P5 | exact P6 | exact P7 | exact P8 | exact P9 | exact P10 | exact P11 | exact P12 | exact P13 | exact P14 | exact P15 | exact P16 | exact P17 | exact P18 | exact P19 | exact P20 | exact P21 | exact P22 | exact P23)) | (apply Part.nilc))) ?_
  refine SP_part (hpt [sgA]) ?_
  have hel3 := hM3.sc.el
  rw [newPt (eb := eb1) (n := m3.envs.length) hel3]
  obtain ⟨nk4, hnk4, hnc4⟩ := hM4.node hj
  replace hnc4 : ∀ H : Hp, Cells (sg4 :: H) nk4 (0 + j * 8) (ndV d) := fun H => by rw [← hd]; exact hnc4 H
  have hnS4 : ∀ H : Hp, Cell (sg4 :: H) x.b (0 + 2) (.slice x.na m3.nodes.length x.nc) := hM4.cNodes
  rw [hnk4] at hnS4
  have hnN : ∀ H : Hp, Cell (sg4 :: H) nk4 (0 + ((j : Nat) : Int).toNat * 8 + 4) (I d.next) := fun H => by have := (hnc4 H).cell (j := 4) (v := I d.next) rfl; simpa using this
  refine SP_region ?_
  refine SPL_y (y_move rfl) rfl ?_
  refine SPL_y (y_assign rfl) rfl ?_
  refine SPL_nil ?_
  refine thenP_n ?_
  refine SP_region ?_
  refine SPL_y (y_move rfl) rfl ?_
  refine SPL_y (y_add rfl rfl (by omega)) rfl ?_
  refine SPL_y (y_assign rfl) rfl ?_
  refine SPL_nil ?_
  refine inBlockP_n ?_
  refine thenP_n ?_
  refine SP_region ?_
  refine SPL_y (y_move rfl) rfl ?_
  refine SPL_y (y_nil rfl) rfl ?_
  refine SPL_y (y_fa fld_142_2 rfl) rfl ?_
  refine SPL_y (y_load Tryz.isAgg65 rfl (by repeat (first | exact hnS4 _ | apply Cell.tail))) rfl ?_
  refine SPL_y (y_move rfl) rfl ?_
  refine SPL_y (y_ia Tryz.underlying65 Tryz.sizeOf158 rfl rfl (by omega)) rfl ?_
  refine SPL_y (y_fa fld_158_4 rfl) rfl ?_
  refine SPL_y (y_load Tryz.isAgg3 rfl (by repeat (first | exact hnN _ | apply Cell.tail))) rfl ?_
  refine SPL_y (y_assign rfl) rfl ?_
  refine SPL_nil ?_
  refine thenP_n ?_
  exact Again.intro ((f, d.next, i + 1, some m3.envs.length, eb1 ++ [b98], { m3 with envs := m3.envs ++ [⟨d.s, args.getD i V.nil, e1⟩] }, sg4)) (⟨by rw [hgv]; exact hM4, hpar, hpre.trans (List.prefix_append _ _), (fun z hz => by injection hz with hz; subst hz; simp; omega), by dsimp only; omega, trivial⟩) (by dsimp only; omega) (by repeat (first | exact Sub.nil _ | refine Sub.cons rfl ?_)) (by repeat (first | exact Part.nil _ | (apply Part.cons; with_reducible (first | exact P0 | exact P1 | exact P2 | exact P3 | exact P4 | exact P5 | exact P6 | exact P7 | exact P8 | exact P9 | exact P10 | exact P11 | exact P12 | exact P13 | exact P14 | exact P15 | exact P16 | exact P17 | exact P18 | exact P19 | exact P20 | exact P21 | exact P22 | exact P23)) | (apply Part.flat; simp only [List.cons_append, List.nil_append]) | (apply Part.cons; (first | exact P0 | exact P1 | exact P2 | exact P3 | exact P4 | exact P5 | exact P6 | exact P7 | exact P8 | exact P9 | exact P10 | exact P11 | exact P12 | exact P13 | exact P14 | exact P15 | exact P16 | exact P17 | exact P18 | exact P19 | exact P20 | exact P21 | exact P22 | exact P23)) | (apply Part.nilc)))

end Go.Sl
