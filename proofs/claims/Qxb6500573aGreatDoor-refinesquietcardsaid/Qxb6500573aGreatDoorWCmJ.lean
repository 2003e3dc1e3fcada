/- Walks: package compm: one step (made by program out of short notes) -/
import Derived.Test.Qxb6500573aGreatDoorCMJ
import Derived.Test.Qxb6500573aGreatDoorWCmI
namespace Go.Sl
open Go Go.Wl Go.Proofs
open Go.Nm
set_option maxRecDepth 100000
set_option linter.unusedVariables false
set_option linter.unusedSimpArgs false
theorem Cell.opn {pre H : Hp} {b o : Nat} {v : Value} (h : Cell [List.flatten pre] b o v) : Cell (pre ++ H) b o v := by
  obtain ⟨c, T, fz, h1, h2⟩ := h
  exact ⟨c, T, fz, by unfold Has at *; simpa using Or.inl (by simpa using h1), h2⟩
theorem Cells.opn {pre H : Hp} {b o : Nat} {vs : List Value} (h : Cells [List.flatten pre] b o vs) : Cells (pre ++ H) b o vs := by
  obtain ⟨c, T, fz, h1, h2⟩ := h
  exact ⟨c, T, fz, by unfold Has at *; simpa using Or.inl (by simpa using h1), h2⟩
theorem _root_.Go.Nm.isRm.tops {x : RX} {eb hb : List Nat} {m : RnM} {s : Seg} (h : isRm x eb hb m s) {c : Nat} (hc : c < m.ths.length) (h0 : 0 < m.ths[c].vals.length) : ∃ vk vc, (∀ H : Hp, Cell (s :: H) (hb.getD c 0) (0 + 4) (.slice (some ⟨vk, 0, none⟩) m.ths[c].vals.length vc)) ∧ ∀ i (hi : i < m.ths[c].vals.length) (H : Hp), Cells (s :: H) vk (0 + ((i : Nat) : Int).toNat * 3) (valV m.ths[c].vals[i]) := by
  obtain ⟨hk, hcp, ta, tc, va, vc, _, _, h3, _, h5⟩ := h.thr hc
  obtain ⟨vk, rfl, _⟩ := h5 0 h0
  refine ⟨vk, vc, fun H => (h3 H).cell (j := 4) rfl, fun i hi H => ?_⟩
  obtain ⟨vk2, e, h6⟩ := h5 i hi
  injection e with e
  injection e with e
  subst e
  simpa using h6 H
theorem vTop_some {k : Nat} {m : RnM} {v : V} (h : vTop k m = some v) {c : Nat} (hcc : m.cur = c) (hc : c < m.ths.length) : (1 ≤ k ∧ k ≤ m.ths[c].vals.length ∧ m.ths[c].vals.length ≤ 1000000) ∧ ∃ hi : m.ths[c].vals.length - k < m.ths[c].vals.length, m.ths[c].vals[m.ths[c].vals.length - k] = v := by
  unfold vTop at h
  split at h
  · rename_i g
    rw [thG_eq hcc hc] at h g
    obtain ⟨h1, h2⟩ := List.getElem?_eq_some_iff.1 h
    exact ⟨⟨g.2.2.2, g.2.2.1, g.2.1⟩, h1, h2⟩
  · cases h
theorem rpop_cur {m m1 : RnM} {v : V} (h : rpop m = some (v, m1)) : m1.cur = m.cur ∧ m1.ths.length = m.ths.length ∧ m1.nodes = m.nodes ∧ m1.envs = m.envs := by
  unfold rpop at h
  split at h
  · injection h with h; injection h with h1 h2; subst h2; exact ⟨rfl, by unfold rset; simp, rfl, rfl⟩
  · cases h
theorem rdo_cur {k n y : Int} {e : Option Nat} {m m1 : RnM} (h : rdo k n y e m = some m1) : m1.cur = m.cur ∧ m1.ths.length = m.ths.length ∧ m1.nodes = m.nodes ∧ m1.envs = m.envs := by
  unfold rdo at h
  split at h
  · injection h with h; subst h; exact ⟨rfl, by unfold rset; simp, rfl, rfl⟩
  · cases h
theorem fill_env3 (t : List UInt8) (v : V) (a : Option Addr) : Instr.fill (fun i => [(0, 1), (1, 3), (4, 1)][i]?) [Value.string ⟨⟨[]⟩⟩, .int .i64 0, .int .u64 0, .string ⟨⟨[]⟩⟩, .pointer none].toArray [(0, S t), (1, .agg (valV v).toArray), (2, .pointer a)] = some [S t, I v.t, .int .u64 v.n, S v.s, .pointer a].toArray := rfl
theorem newE_some {t : List UInt8} {v : V} {e : Option Nat} {m m1 : RnM} {i : Nat} (h : newE t v e m = some (i, m1)) : i = m.envs.length ∧ m1 = { m with envs := m.envs ++ [⟨t, v, e⟩] } ∧ ∀ i, e = some i → i < m.envs.length := by
  unfold newE at h
  split at h
  · rename_i g; injection h with h; injection h with h1 h2; exact ⟨h1.symm, h2.symm, g⟩
  · cases h
theorem setE_some {i : Nat} {v : V} {m m1 : RnM} (h : setE i v m = some m1) : ∃ hi : i < m.envs.length, m1 = { m with envs := m.envs.set i { m.envs[i] with v := v } } := by
  unfold setE at h
  split at h
  · rename_i g; injection h with h; refine ⟨g, h.symm.trans ?_⟩; rw [List.getD_eq_getElem?_getD, List.getElem?_eq_getElem g]; rfl
  · cases h
theorem numR_k {v : V} (h : numR v = true) : ∃ k : Nat, v.n = k ∧ k < 18446744073709551616 := ⟨v.n.toNat, by have := of_decide_eq_true h; omega, by have := of_decide_eq_true h; omega⟩
theorem _root_.Go.Nm.isRm.topsE {x : RX} {eb hb : List Nat} {m : RnM} {s : Seg} (h : isRm x eb hb m s) {c : Nat} (hc : c < m.ths.length) {l : List V} (e : m.ths[c].vals = l) (h0 : 0 < l.length) : ∃ vk vc, (∀ H : Hp, Cell (s :: H) (hb.getD c 0) (0 + 4) (.slice (some ⟨vk, 0, none⟩) l.length vc)) ∧ ∀ i (hi : i < l.length) (H : Hp), Cells (s :: H) vk (0 + ((i : Nat) : Int).toNat * 3) (valV l[i]) := by subst e; exact h.tops hc h0
theorem rset_thr {m : RnM} {t : ThM} {c : Nat} (hcc : m.cur = c) (hc : c < m.ths.length) : ∃ hc1 : c < (rset m t).ths.length, (rset m t).ths[c] = t := by
  refine ⟨by unfold rset; simpa using hc, ?_⟩
  unfold rset
  simp only [hcc, Int.toNat_natCast]
  exact List.getElem_set_self _
theorem rdo_thr {k n y : Int} {e : Option Nat} {m m1 : RnM} (h : rdo k n y e m = some m1) {c : Nat} (hcc : m.cur = c) (hc : c < m.ths.length) : ∃ hc1 : c < m1.ths.length, m1.cur = c ∧ m1.ths[c].vals = m.ths[c].vals := by
  unfold rdo at h
  split at h
  · injection h with h; subst h
    obtain ⟨hc1, h2⟩ := rset_thr (t := { thG m with tasks := (thG m).tasks ++ [⟨k, n, y, e⟩] }) hcc hc
    exact ⟨hc1, hcc, by rw [h2, thG_eq hcc hc]⟩
  · cases h
theorem rpop_thr {v : V} {m m1 : RnM} (h : rpop m = some (v, m1)) {c : Nat} (hcc : m.cur = c) (hc : c < m.ths.length) : ∃ hc1 : c < m1.ths.length, m1.cur = c ∧ m1.ths.length = m.ths.length := by
  unfold rpop at h
  split at h
  · injection h with h; injection h with h1 h2; subst h2
    exact ⟨by unfold rset; simpa using hc, hcc, by unfold rset; simp⟩
  · cases h
theorem rputV_some {k : Nat} {v : V} {m m1 : RnM} (h : rputV k v m = some m1) {c : Nat} (hcc : m.cur = c) (hc : c < m.ths.length) : m1 = rset m { m.ths[c] with vals := m.ths[c].vals.set (m.ths[c].vals.length - k) v } := by
  unfold rputV at h
  split at h
  · injection h with h; rw [← h, thG_eq hcc hc]
  · cases h
theorem rcutV_some {k : Nat} {m m1 : RnM} (h : rcutV k m = some m1) {c : Nat} (hcc : m.cur = c) (hc : c < m.ths.length) : m1 = rset m { m.ths[c] with vals := m.ths[c].vals.take (m.ths[c].vals.length - k) } := by
  unfold rcutV at h
  split at h
  · injection h with h; rw [← h, thG_eq hcc hc]
  · cases h
theorem SPO_part {P : Program} {n : Nat} {ops : Array Oper} {Q : Post} {Hs : Hp} {D : Defs} {ρ : Env} {H : Hp} {ord : List (Nat × Nat)} {H' rest : Hp} (hh : Part H H' rest) (h : SPO P n ops Q Hs ord D ρ H') : SPO P n ops Q Hs ord D ρ H :=
  fun A F a w hf ho => h A F a w hf (hh.drop ho)
theorem getD_tk {l : List TkM} {i : Nat} (h : i < l.length) : l.getD i ⟨0, 0, 0, none⟩ = l[i] := by rw [List.getD_eq_getElem?_getD, List.getElem?_eq_getElem h]; rfl
set_option maxHeartbeats 8000000 in
theorem cm_step (x : RX) (eb hb : List Nat) {m m' : RnM} (hP : rstep m = some m') (s : Seg) (hM : isRm x eb hb m s) : Spec Tryz.prog 65 [ptr x.b] [s] (Ret fun v H => v = .tuple #[] ∧ ∃ eb' hb' s', Gr eb hb eb' hb' ∧ isRm x eb' hb' m' s' ∧ H = [s']) := by
  unfold rstep at hP
  have hg : curOk m ∧ (0 < (thG m).tasks.length ∧ (thG m).tasks.length ≤ 1000000) := Decidable.byContradiction fun q => by rw [if_pos q] at hP; cases hP
  rw [if_neg (fun q => q hg)] at hP
  dsimp only at hP
  obtain ⟨⟨hq1, hq2⟩, hq3⟩ := hg
  obtain ⟨c, hcc⟩ : ∃ c : Nat, m.cur = c := ⟨m.cur.toNat, by omega⟩
  have hc : c < m.ths.length := by omega
  have hth := thG_eq hcc hc
  rw [hth] at hq3 hP
  have hil : m.ths[c].tasks.length - 1 < m.ths[c].tasks.length := by omega
  rw [getD_tk hil] at hP
  obtain ⟨ca, cc, hk, hc', hsp, s0, s1, s2, s3, s4, sX, sA, sZ, R, ta, tc, va, vc, sa, sv, rfl, hstk, hhl, hTA, hVA, hTS, hput⟩ := isRm_open hM hc
  refine Spec_openAt [blk x.b 142 [ptr x.nb, ptr x.tb, Value.slice x.na m.nodes.length x.nc, I m.root, Value.slice ca m.clos.length cc, Value.slice (some ⟨hk, 0, none⟩) m.ths.length hc', I s0, I s1, I s2, I s3, I s4, I m.sp, I m.cur, I m.fuel, I m.first, S m.out, .bool m.done, I m.ans.e, I m.ans.n, I m.ans.m, S m.ans.s, S m.ans.t], sX, blk hk 149 (hb.map ptr ++ hsp), sA, List.flatten [blk (hb.getD c 0) 152 [I m.ths[c].st, I m.ths[c].fn, I (m.ths[c].depth), Value.slice ta (m.ths[c].tasks.length) tc, Value.slice va (m.ths[c].vals.length) vc], sa, sv], sZ, R] (by first | exact P0 | exact P1 | exact P2 | exact P3 | exact P4 | exact P5 | exact P6 | exact P7 | exact P8 | exact P9 | exact P10 | exact P11 | exact P12 | exact P13 | exact P14 | exact P15 | exact P16 | exact P17 | exact P18 | exact P19 | exact P20 | exact P21 | exact P22 | exact P23) ?_
  simp only [List.cons_append, List.nil_append]
  refine Spec_openAt [blk (hb.getD c 0) 152 [I m.ths[c].st, I m.ths[c].fn, I (m.ths[c].depth), Value.slice ta (m.ths[c].tasks.length) tc, Value.slice va (m.ths[c].vals.length) vc], sa, sv] (by first | exact P0 | exact P1 | exact P2 | exact P3 | exact P4 | exact P5 | exact P6 | exact P7 | exact P8 | exact P9 | exact P10 | exact P11 | exact P12 | exact P13 | exact P14 | exact P15 | exact P16 | exact P17 | exact P18 | exact P19 | exact P20 | exact P21 | exact P22 | exact P23) ?_
  simp only [List.cons_append, List.nil_append]
  have hcell : ∀ H : Hp, Cell (blk hk 149 (hb.map ptr ++ hsp) :: H) hk (0 + ((c : Nat) : Int).toNat * 1) (ptr (hb.getD c 0)) := fun H => Cell.head (hb_at hhl hc)
  rw [hcc]
  obtain ⟨tk, tsp, rfl, htc, htsp, rfl⟩ := hTA.row (by omega)
  obtain ⟨q, hq⟩ : ∃ z : TkM, m.ths[c].tasks[m.ths[c].tasks.length - 1] = z := ⟨_, rfl⟩
  rw [hq] at hP
  have hqe : eIn eb.length q.e := by rw [← hq]; exact hTS _ (List.getElem_mem hil)
  refine Spec_enter Tryz.func65 rfl Tryz.ntmps65 rfl ?_
  show SP _ _ _ _ _ [(0, _)] _
  refine SP_seq ?_
  refine SP_draw 999 [(0, 0), (1, 0), (2, 0), (4, 0), (5, 0), (6, 0), (3, 1), (7, 1), (8, 0), (9, 1), (10, 0)] mixed (by kernel_rfl) (fun _ _ _ _ _ h => h) (Part.refl _) ?_
  refine SPO_p rfl (y_move rfl) rfl ?_
  refine SPO_p rfl (y_nil rfl) rfl ?_
  refine SPO_p rfl (y_fa fld_142_5 rfl) rfl ?_
  refine SPO_p rfl (y_move rfl) rfl ?_
  refine SPO_p rfl (y_nil rfl) rfl ?_
  refine SPO_p rfl (y_fa fld_142_8 rfl) rfl ?_
  refine SPO_h rfl (y_load Tryz.isAgg139 rfl (by repeat (first | exact Cell.amid hpre rfl | exact Cell.head rfl | apply Cell.tail))) rfl ?_
  refine SPO_h rfl (y_load Tryz.isAgg3 rfl (by repeat (first | exact Cell.amid hpre rfl | exact Cell.head rfl | apply Cell.tail))) rfl ?_
  refine SPO_p rfl (y_ia Tryz.underlying139 Tryz.sizeOf149 rfl rfl (by omega)) rfl ?_
  refine SPO_h rfl (y_load Tryz.isAgg149 rfl (by repeat (first | exact hcell _ | apply Cell.tail))) rfl ?_
  refine SPO_p rfl (y_assign rfl) rfl ?_
  refine SPO_nil ?_
  refine thenP_n ?_
  refine SP_seq ?_
  refine SP_draw 13 [(0, 0), (1, 0), (2, 0), (4, 0), (5, 0), (6, 0), (3, 1), (7, 1), (8, 0), (9, 0), (10, 0), (11, 1), (12, 2), (13, 3)] mixed (by kernel_rfl) (fun _ _ _ _ _ h => h) (Part.refl _) ?_
  refine SPO_p rfl (y_move rfl) rfl ?_
  refine SPO_p rfl (y_nil rfl) rfl ?_
  refine SPO_p rfl (y_fa fld_152_3 rfl) rfl ?_
  refine SPO_p rfl (y_move rfl) rfl ?_
  refine SPO_p rfl (y_nil rfl) rfl ?_
  refine SPO_p rfl (y_fa fld_152_3 rfl) rfl ?_
  refine SPO_h rfl (y_load Tryz.isAgg150 rfl (by repeat (first | exact Cell.amid hpre rfl | exact Cell.head rfl | apply Cell.tail))) rfl ?_
  refine SPO_h rfl (y_load Tryz.isAgg150 rfl (by repeat (first | exact Cell.amid hpre rfl | exact Cell.head rfl | apply Cell.tail))) rfl ?_
  refine SPO_p rfl (y_len_l Tryz.underlying150 rfl) rfl ?_
  refine SPO_p rfl (y_sub rfl rfl (by omega)) rfl ?_
  rw [show ((m.ths[c].tasks.length : Nat) : Int) - 1 = ((m.ths[c].tasks.length - 1 : Nat) : Int) by omega]
  refine SPO_p rfl (y_ia Tryz.underlying150 Tryz.sizeOf206 rfl rfl (by omega)) rfl ?_
  refine SPO_h rfl (y_loads Tryz.isAgg206 Tryz.sizeOf206 rfl rfl (by repeat (first | exact flat_cellsE (tskV_len eb) rfl hil hq | apply Cells.tail))) rfl ?_
  refine SPO_a rfl rfl (SP1_alloc Tryz.zeroValue206 rfl rfl ?_)
  intro b3
  refine ⟨⟨_, (by repeat (first | exact Part.nil _ | (apply Part.cons; with_reducible (first | exact P0 | exact P1 | exact P2 | exact P3 | exact P4 | exact P5 | exact P6 | exact P7 | exact P8 | exact P9 | exact P10 | exact P11 | exact P12 | exact P13 | exact P14 | exact P15 | exact P16 | exact P17 | exact P18 | exact P19 | exact P20 | exact P21 | exact P22 | exact P23)) | (apply Part.flat; simp only [List.cons_append, List.nil_append]) | (apply Part.cons; (first | exact P0 | exact P1 | exact P2 | exact P3 | exact P4 | exact P5 | exact P6 | exact P7 | exact P8 | exact P9 | exact P10 | exact P11 | exact P12 | exact P13 | exact P14 | exact P15 | exact P16 | exact P17 | exact P18 | exact P19 | exact P20 | exact P21 | exact P22 | exact P23)) | (apply Part.nilc)))⟩, ?_⟩
  refine SPO_z (k := 0) rfl rfl (SP1_storeAll Tryz.sizeOf206 rfl rfl rfl rfl rfl (by first | exact U0 | exact U1 | exact U2 | exact U3 | exact U4 | exact U5 | exact U6 | exact U7 | exact U8 | exact U9 | exact U10 | exact U11 | exact U12 | exact U13 | exact U14 | exact U15 | exact U16 | exact U17 | exact U18 | exact U19 | exact U20 | exact U21 | exact U22 | exact U23) (by rfl) ?_)
  refine SPO_nil ?_
  refine thenP_n ?_
  refine SP_seq ?_
  refine SP_draw 14 [(0, 0), (1, 0), (2, 0), (3, 0), (5, 0), (6, 0), (7, 0), (4, 1), (8, 1), (9, 0), (10, 0), (11, 0), (12, 0), (13, 0), (14, 3)] mixed (by kernel_rfl) (fun _ _ _ _ _ h => h) (Part.refl _) ?_
  refine SPO_p rfl (y_move rfl) rfl ?_
  refine SPO_p rfl (y_move rfl) rfl ?_
  refine SPO_p rfl (y_nil rfl) rfl ?_
  refine SPO_p rfl (y_fa fld_152_3 rfl) rfl ?_
  refine SPO_p rfl (y_move rfl) rfl ?_
  refine SPO_p rfl (y_nil rfl) rfl ?_
  refine SPO_p rfl (y_fa fld_152_3 rfl) rfl ?_
  refine SPO_h rfl (y_load Tryz.isAgg150 rfl (by repeat (first | exact Cell.amid hpre rfl | exact Cell.head rfl | apply Cell.tail))) rfl ?_
  refine SPO_h rfl (y_load Tryz.isAgg150 rfl (by repeat (first | exact Cell.amid hpre rfl | exact Cell.head rfl | apply Cell.tail))) rfl ?_
  refine SPO_p rfl (y_len_l Tryz.underlying150 rfl) rfl ?_
  refine SPO_p rfl (y_sub rfl rfl (by omega)) rfl ?_
  rw [show ((m.ths[c].tasks.length : Nat) : Int) - 1 = ((m.ths[c].tasks.length - 1 : Nat) : Int) by omega]
  refine SPO_p rfl (y_cut hTA Tryz.underlying150 Tryz.sizeOf206 rfl rfl (by omega)) rfl ?_
  refine SPO_p rfl (y_nil rfl) rfl ?_
  refine SPO_p rfl (y_fa fld_152_3 rfl) rfl ?_
  refine SPO_z (k := 0) rfl rfl (SP1_store Tryz.sizeOf150 rfl rfl rfl (by first | exact U0 | exact U1 | exact U2 | exact U3 | exact U4 | exact U5 | exact U6 | exact U7 | exact U8 | exact U9 | exact U10 | exact U11 | exact U12 | exact U13 | exact U14 | exact U15 | exact U16 | exact U17 | exact U18 | exact U19 | exact U20 | exact U21 | exact U22 | exact U23) (by rfl) ?_)
  refine SPO_nil ?_
  refine thenP_n ?_
  refine SP_seq ?_
  have hM0 : isRm x eb hb (rset m { m.ths[c] with tasks := m.ths[c].tasks.take (m.ths[c].tasks.length - 1) }) (List.flatten [blk x.b 142 [ptr x.nb, ptr x.tb, Value.slice x.na m.nodes.length x.nc, I m.root, Value.slice ca m.clos.length cc, Value.slice (some ⟨hk, 0, none⟩) m.ths.length hc', I s0, I s1, I s2, I s3, I s4, I m.sp, I (c : Int), I m.fuel, I m.first, S m.out, .bool m.done, I m.ans.e, I m.ans.n, I m.ans.m, S m.ans.s, S m.ans.t], sX, blk hk 149 (hb.map ptr ++ hsp), sA, List.flatten [blk (hb.getD c 0) 152 [I m.ths[c].st, I m.ths[c].fn, I (m.ths[c].depth), Value.slice (some ⟨tk, 0, none⟩) (m.ths[c].tasks.length - 1) tc, Value.slice va (m.ths[c].vals.length) vc], (blk tk 206 (m.ths[c].tasks.flatMap (tskV eb) ++ tsp)), sv], sZ, R]) := by
    have := hput (rset m { m.ths[c] with tasks := m.ths[c].tasks.take (m.ths[c].tasks.length - 1) }) s0 s1 s2 s3 s4 ({ m.ths[c] with tasks := m.ths[c].tasks.take (m.ths[c].tasks.length - 1) }) (some ⟨tk, 0, none⟩) tc va vc (blk tk 206 (m.ths[c].tasks.flatMap (tskV eb) ++ tsp)) sv (m.ths[c].tasks.length - 1) (m.ths[c].vals.length) rfl rfl rfl ?_ rfl rfl hstk (by simp) rfl ((by have := hTA.cut (j := m.ths[c].tasks.length - 1) (by omega); rwa [flat_tk1 (tskV_len eb)] at this)) (hVA) (fun z hz => hTS z (List.mem_of_mem_take hz))
    · rw [← hcc]; exact this
    · unfold rset; rw [hcc]; rfl
  refine SP_part (H' := [List.flatten [blk x.b 142 [ptr x.nb, ptr x.tb, Value.slice x.na m.nodes.length x.nc, I m.root, Value.slice ca m.clos.length cc, Value.slice (some ⟨hk, 0, none⟩) m.ths.length hc', I s0, I s1, I s2, I s3, I s4, I m.sp, I (c : Int), I m.fuel, I m.first, S m.out, .bool m.done, I m.ans.e, I m.ans.n, I m.ans.m, S m.ans.s, S m.ans.t], sX, blk hk 149 (hb.map ptr ++ hsp), sA, List.flatten [blk (hb.getD c 0) 152 [I m.ths[c].st, I m.ths[c].fn, I (m.ths[c].depth), Value.slice (some ⟨tk, 0, none⟩) (m.ths[c].tasks.length - 1) tc, Value.slice va (m.ths[c].vals.length) vc], (blk tk 206 (m.ths[c].tasks.flatMap (tskV eb) ++ tsp)), sv], sZ, R], blk b3 206 (tskV eb q)]) (by repeat (first | exact Part.nil _ | (apply Part.cons; with_reducible (first | exact P0 | exact P1 | exact P2 | exact P3 | exact P4 | exact P5 | exact P6 | exact P7 | exact P8 | exact P9 | exact P10 | exact P11 | exact P12 | exact P13 | exact P14 | exact P15 | exact P16 | exact P17 | exact P18 | exact P19 | exact P20 | exact P21 | exact P22 | exact P23)) | (apply Part.flat; simp only [List.cons_append, List.nil_append]) | (apply Part.cons; (first | exact P0 | exact P1 | exact P2 | exact P3 | exact P4 | exact P5 | exact P6 | exact P7 | exact P8 | exact P9 | exact P10 | exact P11 | exact P12 | exact P13 | exact P14 | exact P15 | exact P16 | exact P17 | exact P18 | exact P19 | exact P20 | exact P21 | exact P22 | exact P23)) | (apply Part.nilc))) ?_
  obtain ⟨m0, hm0⟩ : ∃ z : RnM, rset m { m.ths[c] with tasks := m.ths[c].tasks.take (m.ths[c].tasks.length - 1) } = z := ⟨_, rfl⟩
  obtain ⟨sg0, hsg0⟩ : ∃ z : Seg, List.flatten [blk x.b 142 [ptr x.nb, ptr x.tb, Value.slice x.na m.nodes.length x.nc, I m.root, Value.slice ca m.clos.length cc, Value.slice (some ⟨hk, 0, none⟩) m.ths.length hc', I s0, I s1, I s2, I s3, I s4, I m.sp, I (c : Int), I m.fuel, I m.first, S m.out, .bool m.done, I m.ans.e, I m.ans.n, I m.ans.m, S m.ans.s, S m.ans.t], sX, blk hk 149 (hb.map ptr ++ hsp), sA, List.flatten [blk (hb.getD c 0) 152 [I m.ths[c].st, I m.ths[c].fn, I (m.ths[c].depth), Value.slice (some ⟨tk, 0, none⟩) (m.ths[c].tasks.length - 1) tc, Value.slice va (m.ths[c].vals.length) vc], (blk tk 206 (m.ths[c].tasks.flatMap (tskV eb) ++ tsp)), sv], sZ, R] = z := ⟨_, rfl⟩
  have hcc0 : m0.cur = c := by rw [← hm0]; exact hcc
  have hc0 : c < m0.ths.length := by rw [← hm0]; show c < (rset m { m.ths[c] with tasks := m.ths[c].tasks.take (m.ths[c].tasks.length - 1) }).ths.length; unfold rset; simpa using hc
  have hg0 : m0.ths.length ≤ 1000 := by rw [← hm0]; show (rset m { m.ths[c] with tasks := m.ths[c].tasks.take (m.ths[c].tasks.length - 1) }).ths.length ≤ _; unfold rset; simpa using hq2
  rw [hm0, hsg0] at hM0
  rw [hm0] at hP
  rw [hsg0]
  clear hput hstk hTA hVA hTS hcell hsg0
  try dsimp only at hP
  refine SP_region ?_
  refine SPL_one rfl (SP1_alloc Tryz.zeroValue158 rfl rfl ?_)
  intro b4
  refine SPL_nil ?_
  refine thenP_n ?_
  refine SP_mid (G := Nd) (fun d => [(0, ptr x.b), (2, ptr (hb.getD c 0)), (3, ptr b3), (4, ptr b4)]) (fun d => [sg0, blk b3 206 (tskV eb q), blk b4 158 (ndV d)]) (fun d => rtask q d m0 = some m') ?_ ?_
  · refine SP_seq ?_
    refine SP_region ?_
    refine SPL_y (y_fa fld_206_0 rfl) rfl ?_
    refine SPL_y (y_load Tryz.isAgg3 rfl (by repeat (first | exact Cell.amid hpre rfl | exact Cell.head rfl | apply Cell.tail))) rfl ?_
    refine SPL_ifn (y_neq rfl rfl) rfl ?_ ?_
    · intro h4_2
      first | rw [if_neg h4_2] at hP | rw [if_pos (Decidable.not_not.1 h4_2)] at hP | skip
      refine SPL_nil ?_
      refine thenP_n ?_
      refine SP_cond_f rfl ?_
      refine SP_skip ?_
      refine thenP_n ?_
      exact Mid.intro (nd0) (by first | exact hP | rwa [if_pos (Decidable.not_not.1 h4_2)] at hP) (by repeat (first | exact Sub.nil _ | refine Sub.cons rfl ?_)) (by repeat (first | exact Part.nil _ | (apply Part.cons; with_reducible (first | exact P0 | exact P1 | exact P2 | exact P3 | exact P4 | exact P5 | exact P6 | exact P7 | exact P8 | exact P9 | exact P10 | exact P11 | exact P12 | exact P13 | exact P14 | exact P15 | exact P16 | exact P17 | exact P18 | exact P19 | exact P20 | exact P21 | exact P22 | exact P23)) | (apply Part.flat; simp only [List.cons_append, List.nil_append]) | (apply Part.cons; (first | exact P0 | exact P1 | exact P2 | exact P3 | exact P4 | exact P5 | exact P6 | exact P7 | exact P8 | exact P9 | exact P10 | exact P11 | exact P12 | exact P13 | exact P14 | exact P15 | exact P16 | exact P17 | exact P18 | exact P19 | exact P20 | exact P21 | exact P22 | exact P23)) | (apply Part.nilc)))
    intro h4_2
    first | rw [if_pos h4_2] at hP | rw [if_neg h4_2] at hP | skip
    as_aux_lemma =>
      refine SPL_nil ?_
      refine thenP_n ?_
      refine SP_cond_t rfl ?_
      try rw [if_neg h4_2] at hP
      obtain ⟨d, hnd, hP⟩ := bnd1 hP
      obtain ⟨j, nk, hjE, hj, hnl, hnS, hnC⟩ := node_at hM0 hnd
      refine SP_draw 8 [(0, 0), (1, 0), (2, 0), (4, 0), (3, 1), (5, 1), (6, 0), (7, 1), (8, 3)] mixed (by kernel_rfl) (fun _ _ _ _ _ h => h) (Part.refl _) ?_
      refine SPO_p rfl (y_move rfl) rfl ?_
      refine SPO_p rfl (y_nil rfl) rfl ?_
      refine SPO_p rfl (y_fa fld_142_2 rfl) rfl ?_
      refine SPO_p rfl (y_fa fld_206_1 rfl) rfl ?_
      refine SPO_h rfl (y_load Tryz.isAgg65 rfl (by repeat (first | exact hnS _ | apply Cell.tail))) rfl ?_
      refine SPO_h rfl (y_load Tryz.isAgg3 rfl (by repeat (first | exact Cell.amid hpre rfl | exact Cell.head rfl | apply Cell.tail))) rfl ?_
      rw [hjE]
      refine SPO_p rfl (y_ia Tryz.underlying65 Tryz.sizeOf158 rfl rfl (by omega)) rfl ?_
      refine SPO_h rfl (y_loads Tryz.isAgg158 Tryz.sizeOf158 rfl rfl (by repeat (first | exact hnC _ | apply Cells.tail))) rfl ?_
      refine SPO_z (k := 0) rfl rfl (SP1_storeAll Tryz.sizeOf158 rfl rfl rfl rfl rfl (by first | exact U0 | exact U1 | exact U2 | exact U3 | exact U4 | exact U5 | exact U6 | exact U7 | exact U8 | exact U9 | exact U10 | exact U11 | exact U12 | exact U13 | exact U14 | exact U15 | exact U16 | exact U17 | exact U18 | exact U19 | exact U20 | exact U21 | exact U22 | exact U23) (by rfl) ?_)
      refine SPO_nil ?_
      refine thenP_n ?_
      exact Mid.intro (d) (hP) (by repeat (first | exact Sub.nil _ | refine Sub.cons rfl ?_)) (by repeat (first | exact Part.nil _ | (apply Part.cons; with_reducible (first | exact P0 | exact P1 | exact P2 | exact P3 | exact P4 | exact P5 | exact P6 | exact P7 | exact P8 | exact P9 | exact P10 | exact P11 | exact P12 | exact P13 | exact P14 | exact P15 | exact P16 | exact P17 | exact P18 | exact P19 | exact P20 | exact P21 | exact P22 | exact P23)) | (apply Part.flat; simp only [List.cons_append, List.nil_append]) | (apply Part.cons; (first | exact P0 | exact P1 | exact P2 | exact P3 | exact P4 | exact P5 | exact P6 | exact P7 | exact P8 | exact P9 | exact P10 | exact P11 | exact P12 | exact P13 | exact P14 | exact P15 | exact P16 | exact P17 | exact P18 | exact P19 | exact P20 | exact P21 | exact P22 | exact P23)) | (apply Part.nilc)))
  clear hP
  rintro d hP
  unfold rtask at hP
  refine SP_seq ?_
  refine SP_region ?_
  refine SPL_y (y_fa fld_206_0 rfl) rfl ?_
  refine SPL_y (y_load Tryz.isAgg3 rfl (by repeat (first | exact Cell.amid hpre rfl | exact Cell.head rfl | apply Cell.tail))) rfl ?_
  refine SPL_nil ?_
  refine thenP_n ?_
  refine SP_block ?_
  refine SP_seq ?_
  refine SP_region ?_
  refine SPL_if (y_eql rfl rfl) rfl ?_ ?_
  · intro h7_0
    first | rw [if_pos h7_0] at hP | rw [if_neg h7_0] at hP | skip
    as_aux_lemma =>
      refine SPL_y (y_assign rfl) rfl ?_
      refine SPL_nil ?_
      refine thenP_n ?_
      refine SP_cond_t rfl ?_
      refine SP_seq ?_
      refine SP_region ?_
      refine SPL_y (y_fa fld_206_1 rfl) rfl ?_
      refine SPL_y (y_load Tryz.isAgg3 rfl (by repeat (first | exact Cell.amid hpre rfl | exact Cell.head rfl | apply Cell.tail))) rfl ?_
      refine SPL_ifn (y_neq rfl rfl) rfl ?_ ?_
      · intro h8_2
        first | rw [if_neg h8_2] at hP | rw [if_pos (Decidable.not_not.1 h8_2)] at hP | skip
        refine SPL_nil ?_
        refine thenP_n ?_
        refine SP_cond_f rfl ?_
        refine SP_skip ?_
        refine inBlockP_n ?_
        refine bodyP_end (H' := [sg0]) (Res0 rfl) (by repeat (first | exact Part.nil _ | (apply Part.cons; with_reducible (first | exact P0 | exact P1 | exact P2 | exact P3 | exact P4 | exact P5 | exact P6 | exact P7 | exact P8 | exact P9 | exact P10 | exact P11 | exact P12 | exact P13 | exact P14 | exact P15 | exact P16 | exact P17 | exact P18 | exact P19 | exact P20 | exact P21 | exact P22 | exact P23)) | (apply Part.flat; simp only [List.cons_append, List.nil_append]) | (apply Part.cons; (first | exact P0 | exact P1 | exact P2 | exact P3 | exact P4 | exact P5 | exact P6 | exact P7 | exact P8 | exact P9 | exact P10 | exact P11 | exact P12 | exact P13 | exact P14 | exact P15 | exact P16 | exact P17 | exact P18 | exact P19 | exact P20 | exact P21 | exact P22 | exact P23)) | (apply Part.nilc))) ?_
        try rw [if_neg h8_2] at hP
        injection hP with hP
        subst hP
        exact ⟨rfl, eb, hb, _, Gr.refl _ _, hM0, rfl⟩
      intro h8_2
      first | rw [if_pos h8_2] at hP | rw [if_neg h8_2] at hP | skip
      as_aux_lemma =>
        refine SPL_nil ?_
        refine thenP_n ?_
        refine SP_cond_t rfl ?_
        refine SP_region ?_
        refine SPL_y (y_move rfl) rfl ?_
        refine SPL_y (y_fa fld_206_1 rfl) rfl ?_
        refine SPL_y (y_load Tryz.isAgg3 rfl (by repeat (first | exact Cell.amid hpre rfl | exact Cell.head rfl | apply Cell.tail))) rfl ?_
        refine SPL_y (y_fa fld_206_3 rfl) rfl ?_
        refine SPL_y (y_load Tryz.isAgg146 rfl (by repeat (first | exact Cell.amid hpre rfl | exact Cell.head rfl | apply Cell.tail))) rfl ?_
        try rw [if_pos h8_2] at hP
        refine SPL_one rfl (SP1_call (cm_stmt x eb hb hP _ hM0) Tryz.call96 rfl rfl (by repeat (first | exact Part.nil _ | (apply Part.cons; with_reducible (first | exact P0 | exact P1 | exact P2 | exact P3 | exact P4 | exact P5 | exact P6 | exact P7 | exact P8 | exact P9 | exact P10 | exact P11 | exact P12 | exact P13 | exact P14 | exact P15 | exact P16 | exact P17 | exact P18 | exact P19 | exact P20 | exact P21 | exact P22 | exact P23)) | (apply Part.flat; simp only [List.cons_append, List.nil_append]) | (apply Part.cons; (first | exact P0 | exact P1 | exact P2 | exact P3 | exact P4 | exact P5 | exact P6 | exact P7 | exact P8 | exact P9 | exact P10 | exact P11 | exact P12 | exact P13 | exact P14 | exact P15 | exact P16 | exact P17 | exact P18 | exact P19 | exact P20 | exact P21 | exact P22 | exact P23)) | (apply Part.nilc))) ?_)
        rintro v post H' ⟨rfl, ebE, sg9, hpreE, hM9, rfl⟩ hH
        try simp only [List.cons_append, List.nil_append] at hH
        subst hH
        refine SPL_nil ?_
        refine inBlockP_n ?_
        refine bodyP_end (H' := [sg9]) (Res0 rfl) (by repeat (first | exact Part.nil _ | (apply Part.cons; with_reducible (first | exact P0 | exact P1 | exact P2 | exact P3 | exact P4 | exact P5 | exact P6 | exact P7 | exact P8 | exact P9 | exact P10 | exact P11 | exact P12 | exact P13 | exact P14 | exact P15 | exact P16 | exact P17 | exact P18 | exact P19 | exact P20 | exact P21 | exact P22 | exact P23)) | (apply Part.flat; simp only [List.cons_append, List.nil_append]) | (apply Part.cons; (first | exact P0 | exact P1 | exact P2 | exact P3 | exact P4 | exact P5 | exact P6 | exact P7 | exact P8 | exact P9 | exact P10 | exact P11 | exact P12 | exact P13 | exact P14 | exact P15 | exact P16 | exact P17 | exact P18 | exact P19 | exact P20 | exact P21 | exact P22 | exact P23)) | (apply Part.nilc))) ?_
        exact ⟨rfl, ebE, hb, _, ⟨hpreE, List.prefix_refl _⟩, hM9, rfl⟩
  intro h7_0
  first | rw [if_neg h7_0] at hP | rw [if_pos (Decidable.not_not.1 h7_0)] at hP | skip
  as_aux_lemma =>
    refine SPL_y (y_assign rfl) rfl ?_
    refine SPL_nil ?_
    refine thenP_n ?_
    refine SP_cond_f rfl ?_
    refine SP_seq ?_
    refine SP_region ?_
    refine SPL_if (y_eql rfl rfl) rfl ?_ ?_
    · intro h10_0
      first | rw [if_pos h10_0] at hP | rw [if_neg h10_0] at hP | skip
      as_aux_lemma =>
        refine SPL_y (y_assign rfl) rfl ?_
        refine SPL_nil ?_
        refine thenP_n ?_
        refine SP_cond_t rfl ?_
        refine SP_region ?_
        refine SPL_y (y_move rfl) rfl ?_
        refine SPL_y (y_fa fld_206_1 rfl) rfl ?_
        refine SPL_y (y_load Tryz.isAgg3 rfl (by repeat (first | exact Cell.amid hpre rfl | exact Cell.head rfl | apply Cell.tail))) rfl ?_
        refine SPL_y (y_fa fld_206_2 rfl) rfl ?_
        refine SPL_y (y_load Tryz.isAgg3 rfl (by repeat (first | exact Cell.amid hpre rfl | exact Cell.head rfl | apply Cell.tail))) rfl ?_
        refine SPL_y (y_fa fld_206_3 rfl) rfl ?_
        refine SPL_y (y_load Tryz.isAgg146 rfl (by repeat (first | exact Cell.amid hpre rfl | exact Cell.head rfl | apply Cell.tail))) rfl ?_
        refine SPL_one rfl (SP1_call (cm_eval x eb hb hP _ hM0) Tryz.call97 rfl rfl (by repeat (first | exact Part.nil _ | (apply Part.cons; with_reducible (first | exact P0 | exact P1 | exact P2 | exact P3 | exact P4 | exact P5 | exact P6 | exact P7 | exact P8 | exact P9 | exact P10 | exact P11 | exact P12 | exact P13 | exact P14 | exact P15 | exact P16 | exact P17 | exact P18 | exact P19 | exact P20 | exact P21 | exact P22 | exact P23)) | (apply Part.flat; simp only [List.cons_append, List.nil_append]) | (apply Part.cons; (first | exact P0 | exact P1 | exact P2 | exact P3 | exact P4 | exact P5 | exact P6 | exact P7 | exact P8 | exact P9 | exact P10 | exact P11 | exact P12 | exact P13 | exact P14 | exact P15 | exact P16 | exact P17 | exact P18 | exact P19 | exact P20 | exact P21 | exact P22 | exact P23)) | (apply Part.nilc))) ?_)
        rintro v post H' ⟨rfl, sg9, hM9, rfl⟩ hH
        try simp only [List.cons_append, List.nil_append] at hH
        subst hH
        refine SPL_nil ?_
        refine inBlockP_n ?_
        refine bodyP_end (H' := [sg9]) (Res0 rfl) (by repeat (first | exact Part.nil _ | (apply Part.cons; with_reducible (first | exact P0 | exact P1 | exact P2 | exact P3 | exact P4 | exact P5 | exact P6 | exact P7 | exact P8 | exact P9 | exact P10 | exact P11 | exact P12 | exact P13 | exact P14 | exact P15 | exact P16 | exact P17 | exact P18 | exact P19 | exact P20 | exact P21 | exact P22 | exact P23)) | (apply Part.flat; simp only [List.cons_append, List.nil_append]) | (apply Part.cons; (first | exact P0 | exact P1 | exact P2 | exact P3 | exact P4 | exact P5 | exact P6 | exact P7 | exact P8 | exact P9 | exact P10 | exact P11 | exact P12 | exact P13 | exact P14 | exact P15 | exact P16 | exact P17 | exact P18 | exact P19 | exact P20 | exact P21 | exact P22 | exact P23)) | (apply Part.nilc))) ?_
        exact ⟨rfl, eb, hb, _, Gr.refl _ _, hM9, rfl⟩
    intro h10_0
    first | rw [if_neg h10_0] at hP | rw [if_pos (Decidable.not_not.1 h10_0)] at hP | skip
    as_aux_lemma =>
      refine SPL_y (y_assign rfl) rfl ?_
      refine SPL_nil ?_
      refine thenP_n ?_
      refine SP_cond_f rfl ?_
      refine SP_seq ?_
      refine SP_region ?_
      refine SPL_if (y_eql rfl rfl) rfl ?_ ?_
      · intro h12_0
        first | rw [if_pos h12_0] at hP | rw [if_neg h12_0] at hP | skip
        as_aux_lemma =>
          refine SPL_y (y_assign rfl) rfl ?_
          refine SPL_nil ?_
          refine thenP_n ?_
          refine SP_cond_t rfl ?_
          refine SP_seq ?_
          have hcc := hcc0
          have hc := hc0
          have hg2 := hg0
          have hg3 : curOk m0 ∧ (thG m0).tasks.length ≤ 1000000 := Decidable.byContradiction fun z => by rw [if_neg z] at hP; cases hP
          rw [if_pos hg3] at hP
          have hth0 := thG_eq hcc hc
          rw [hth0] at hP hg3
          obtain ⟨_, hg4⟩ := hg3
          obtain ⟨ca, cc, hk, hc', hsp, s0, s1, s2, s3, s4, sX, sA, sZ, R, ta, tc, va, vc, sa, sv, rfl, hstk, hhl, hTA, hVA, hTS, hput⟩ := isRm_open hM0 hc
          refine SP_openAt [blk x.b 142 [ptr x.nb, ptr x.tb, Value.slice x.na m0.nodes.length x.nc, I m0.root, Value.slice ca m0.clos.length cc, Value.slice (some ⟨hk, 0, none⟩) m0.ths.length hc', I s0, I s1, I s2, I s3, I s4, I m0.sp, I m0.cur, I m0.fuel, I m0.first, S m0.out, .bool m0.done, I m0.ans.e, I m0.ans.n, I m0.ans.m, S m0.ans.s, S m0.ans.t], sX, blk hk 149 (hb.map ptr ++ hsp), sA, List.flatten [blk (hb.getD c 0) 152 [I m0.ths[c].st, I m0.ths[c].fn, I (m0.ths[c].depth), Value.slice ta (m0.ths[c].tasks.length) tc, Value.slice va (m0.ths[c].vals.length) vc], sa, sv], sZ, R] (by first | exact P0 | exact P1 | exact P2 | exact P3 | exact P4 | exact P5 | exact P6 | exact P7 | exact P8 | exact P9 | exact P10 | exact P11 | exact P12 | exact P13 | exact P14 | exact P15 | exact P16 | exact P17 | exact P18 | exact P19 | exact P20 | exact P21 | exact P22 | exact P23) ?_
          simp only [List.cons_append, List.nil_append]
          refine SP_openAt [blk (hb.getD c 0) 152 [I m0.ths[c].st, I m0.ths[c].fn, I (m0.ths[c].depth), Value.slice ta (m0.ths[c].tasks.length) tc, Value.slice va (m0.ths[c].vals.length) vc], sa, sv] (by first | exact P0 | exact P1 | exact P2 | exact P3 | exact P4 | exact P5 | exact P6 | exact P7 | exact P8 | exact P9 | exact P10 | exact P11 | exact P12 | exact P13 | exact P14 | exact P15 | exact P16 | exact P17 | exact P18 | exact P19 | exact P20 | exact P21 | exact P22 | exact P23) ?_
          simp only [List.cons_append, List.nil_append]
          have hcell : ∀ H : Hp, Cell (blk hk 149 (hb.map ptr ++ hsp) :: H) hk (0 + ((c : Nat) : Int).toNat * 1) (ptr (hb.getD c 0)) := fun H => Cell.head (hb_at hhl hc)
          rw [hcc]
          refine SP_draw 7 [(0, 0), (1, 0), (2, 0), (3, 0), (4, 1), (5, 1), (6, 2), (7, 3), (8, 0), (9, 0), (10, 3)] mixed (by kernel_rfl) (fun _ _ _ _ _ h => h) (Part.refl _) ?_
          refine SPO_p rfl (y_move rfl) rfl ?_
          refine SPO_p rfl (y_move rfl) rfl ?_
          refine SPO_p rfl (y_nil rfl) rfl ?_
          refine SPO_p rfl (y_fa fld_152_3 rfl) rfl ?_
          refine SPO_h rfl (y_load Tryz.isAgg150 rfl (by repeat (first | exact Cell.amid hpre rfl | exact Cell.head rfl | apply Cell.tail))) rfl ?_
          refine SPO_h rfl (y_loads Tryz.isAgg206 Tryz.sizeOf206 rfl rfl (by repeat (first | exact Cells.all _ | exact Cells.amid hpre rfl (by decide) | exact Cells.head rfl | apply Cells.tail))) rfl ?_
          refine SPO_a rfl rfl (SP1_slice1 el_150 rfl rfl rfl rfl rfl ?_)
          intro b122
          refine ⟨⟨_, (by repeat (first | exact Part.nil _ | (apply Part.cons; with_reducible (first | exact P0 | exact P1 | exact P2 | exact P3 | exact P4 | exact P5 | exact P6 | exact P7 | exact P8 | exact P9 | exact P10 | exact P11 | exact P12 | exact P13 | exact P14 | exact P15 | exact P16 | exact P17 | exact P18 | exact P19 | exact P20 | exact P21 | exact P22 | exact P23)) | (apply Part.flat; simp only [List.cons_append, List.nil_append]) | (apply Part.cons; (first | exact P0 | exact P1 | exact P2 | exact P3 | exact P4 | exact P5 | exact P6 | exact P7 | exact P8 | exact P9 | exact P10 | exact P11 | exact P12 | exact P13 | exact P14 | exact P15 | exact P16 | exact P17 | exact P18 | exact P19 | exact P20 | exact P21 | exact P22 | exact P23)) | (apply Part.nilc)))⟩, ?_⟩
          refine SPO_z (k := 0) rfl rfl (SP1_append el_150 (.inl Tryz.underlying150) rfl rfl hTA (by first | exact P0 | exact P1 | exact P2 | exact P3 | exact P4 | exact P5 | exact P6 | exact P7 | exact P8 | exact P9 | exact P10 | exact P11 | exact P12 | exact P13 | exact P14 | exact P15 | exact P16 | exact P17 | exact P18 | exact P19 | exact P20 | exact P21 | exact P22 | exact P23) (Src.of (by repeat (first | exact Cells.all _ | exact Cells.amid hpre rfl (by decide) | exact Cells.head rfl | apply Cells.tail)) (by rfl)) (by rfl) (by omega) rfl ?_)
          intro ta' tc' sa' hTA2
          refine SPO_p rfl (y_nil rfl) rfl ?_
          refine SPO_p rfl (y_fa fld_152_3 rfl) rfl ?_
          refine SPO_z (k := 0) rfl rfl (SP1_store Tryz.sizeOf150 rfl rfl rfl (by first | exact U0 | exact U1 | exact U2 | exact U3 | exact U4 | exact U5 | exact U6 | exact U7 | exact U8 | exact U9 | exact U10 | exact U11 | exact U12 | exact U13 | exact U14 | exact U15 | exact U16 | exact U17 | exact U18 | exact U19 | exact U20 | exact U21 | exact U22 | exact U23) (by rfl) ?_)
          refine SPO_nil ?_
          refine thenP_n ?_
          have hM1 : isRm x eb hb (rset m0 { m0.ths[c] with tasks := m0.ths[c].tasks ++ [q] }) (List.flatten [blk x.b 142 [ptr x.nb, ptr x.tb, Value.slice x.na m0.nodes.length x.nc, I m0.root, Value.slice ca m0.clos.length cc, Value.slice (some ⟨hk, 0, none⟩) m0.ths.length hc', I s0, I s1, I s2, I s3, I s4, I m0.sp, I (c : Int), I m0.fuel, I m0.first, S m0.out, .bool m0.done, I m0.ans.e, I m0.ans.n, I m0.ans.m, S m0.ans.s, S m0.ans.t], sX, blk hk 149 (hb.map ptr ++ hsp), sA, List.flatten [blk (hb.getD c 0) 152 [I m0.ths[c].st, I m0.ths[c].fn, I (m0.ths[c].depth), Value.slice ta' (m0.ths[c].tasks.length + 1) tc', Value.slice va (m0.ths[c].vals.length) vc], sa', sv], sZ, R]) := by
            have := hput (rset m0 { m0.ths[c] with tasks := m0.ths[c].tasks ++ [q] }) s0 s1 s2 s3 s4 ({ m0.ths[c] with tasks := m0.ths[c].tasks ++ [q] }) ta' tc' va vc sa' sv (m0.ths[c].tasks.length + 1) (m0.ths[c].vals.length) rfl rfl rfl ?_ rfl rfl hstk (by simp) rfl (by simpa [tskV] using hTA2) (hVA) (fun z hz => by rcases List.mem_append.1 hz with hz | hz; exact hTS z hz; rw [List.mem_singleton.1 hz]; exact hqe)
            · rw [← hcc]; exact this
            · unfold rset; rw [hcc]; rfl
          refine SP_part (H' := [List.flatten [blk x.b 142 [ptr x.nb, ptr x.tb, Value.slice x.na m0.nodes.length x.nc, I m0.root, Value.slice ca m0.clos.length cc, Value.slice (some ⟨hk, 0, none⟩) m0.ths.length hc', I s0, I s1, I s2, I s3, I s4, I m0.sp, I (c : Int), I m0.fuel, I m0.first, S m0.out, .bool m0.done, I m0.ans.e, I m0.ans.n, I m0.ans.m, S m0.ans.s, S m0.ans.t], sX, blk hk 149 (hb.map ptr ++ hsp), sA, List.flatten [blk (hb.getD c 0) 152 [I m0.ths[c].st, I m0.ths[c].fn, I (m0.ths[c].depth), Value.slice ta' (m0.ths[c].tasks.length + 1) tc', Value.slice va (m0.ths[c].vals.length) vc], sa', sv], sZ, R], blk b3 206 (tskV eb q), blk b4 158 (ndV d)]) (by repeat (first | exact Part.nil _ | (apply Part.cons; with_reducible (first | exact P0 | exact P1 | exact P2 | exact P3 | exact P4 | exact P5 | exact P6 | exact P7 | exact P8 | exact P9 | exact P10 | exact P11 | exact P12 | exact P13 | exact P14 | exact P15 | exact P16 | exact P17 | exact P18 | exact P19 | exact P20 | exact P21 | exact P22 | exact P23)) | (apply Part.flat; simp only [List.cons_append, List.nil_append]) | (apply Part.cons; (first | exact P0 | exact P1 | exact P2 | exact P3 | exact P4 | exact P5 | exact P6 | exact P7 | exact P8 | exact P9 | exact P10 | exact P11 | exact P12 | exact P13 | exact P14 | exact P15 | exact P16 | exact P17 | exact P18 | exact P19 | exact P20 | exact P21 | exact P22 | exact P23)) | (apply Part.nilc))) ?_
          refine SP_region ?_
          refine SPL_y (y_move rfl) rfl ?_
          refine SPL_y (y_build B42 rfl rfl (by simp only [fillL, List.foldl_cons, List.foldl_nil, List.set_cons_zero, List.set_cons_succ]; exact rfl)) rfl ?_
          refine SPL_y (y_build B42 rfl rfl (by simp only [fillL, List.foldl_cons, List.foldl_nil, List.set_cons_zero, List.set_cons_succ]; exact rfl)) rfl ?_
          refine SPL_one rfl (SP1_call (cm_ret x eb hb V.nil V.nil hP _ hM1) Tryz.call98 rfl rfl (by repeat (first | exact Part.nil _ | (apply Part.cons; with_reducible (first | exact P0 | exact P1 | exact P2 | exact P3 | exact P4 | exact P5 | exact P6 | exact P7 | exact P8 | exact P9 | exact P10 | exact P11 | exact P12 | exact P13 | exact P14 | exact P15 | exact P16 | exact P17 | exact P18 | exact P19 | exact P20 | exact P21 | exact P22 | exact P23)) | (apply Part.flat; simp only [List.cons_append, List.nil_append]) | (apply Part.cons; (first | exact P0 | exact P1 | exact P2 | exact P3 | exact P4 | exact P5 | exact P6 | exact P7 | exact P8 | exact P9 | exact P10 | exact P11 | exact P12 | exact P13 | exact P14 | exact P15 | exact P16 | exact P17 | exact P18 | exact P19 | exact P20 | exact P21 | exact P22 | exact P23)) | (apply Part.nilc))) ?_)
          rintro v post H' ⟨rfl, sg9, hM9, rfl⟩ hH
          try simp only [List.cons_append, List.nil_append] at hH
          subst hH
          refine SPL_nil ?_
          refine inBlockP_n ?_
          refine bodyP_end (H' := [sg9]) (Res0 rfl) (by repeat (first | exact Part.nil _ | (apply Part.cons; with_reducible (first | exact P0 | exact P1 | exact P2 | exact P3 | exact P4 | exact P5 | exact P6 | exact P7 | exact P8 | exact P9 | exact P10 | exact P11 | exact P12 | exact P13 | exact P14 | exact P15 | exact P16 | exact P17 | exact P18 | exact P19 | exact P20 | exact P21 | exact P22 | exact P23)) | (apply Part.flat; simp only [List.cons_append, List.nil_append]) | (apply Part.cons; (first | exact P0 | exact P1 | exact P2 | exact P3 | exact P4 | exact P5 | exact P6 | exact P7 | exact P8 | exact P9 | exact P10 | exact P11 | exact P12 | exact P13 | exact P14 | exact P15 | exact P16 | exact P17 | exact P18 | exact P19 | exact P20 | exact P21 | exact P22 | exact P23)) | (apply Part.nilc))) ?_
          exact ⟨rfl, eb, hb, _, Gr.refl _ _, hM9, rfl⟩
      intro h12_0
      first | rw [if_neg h12_0] at hP | rw [if_pos (Decidable.not_not.1 h12_0)] at hP | skip
      as_aux_lemma =>
        refine SPL_y (y_assign rfl) rfl ?_
        refine SPL_nil ?_
        refine thenP_n ?_
        refine SP_cond_f rfl ?_
        refine SP_seq ?_
        refine SP_region ?_
        refine SPL_if (y_eql rfl rfl) rfl ?_ ?_
        · intro h15_0
          first | rw [if_pos h15_0] at hP | rw [if_neg h15_0] at hP | skip
          refine SPL_y (y_assign rfl) rfl ?_
          refine SPL_nil ?_
          refine thenP_n ?_
          refine SP_cond_t rfl ?_
          refine SP_skip ?_
          refine inBlockP_n ?_
          refine bodyP_end (H' := [sg0]) (Res0 rfl) (by repeat (first | exact Part.nil _ | (apply Part.cons; with_reducible (first | exact P0 | exact P1 | exact P2 | exact P3 | exact P4 | exact P5 | exact P6 | exact P7 | exact P8 | exact P9 | exact P10 | exact P11 | exact P12 | exact P13 | exact P14 | exact P15 | exact P16 | exact P17 | exact P18 | exact P19 | exact P20 | exact P21 | exact P22 | exact P23)) | (apply Part.flat; simp only [List.cons_append, List.nil_append]) | (apply Part.cons; (first | exact P0 | exact P1 | exact P2 | exact P3 | exact P4 | exact P5 | exact P6 | exact P7 | exact P8 | exact P9 | exact P10 | exact P11 | exact P12 | exact P13 | exact P14 | exact P15 | exact P16 | exact P17 | exact P18 | exact P19 | exact P20 | exact P21 | exact P22 | exact P23)) | (apply Part.nilc))) ?_
          injection hP with hP
          subst hP
          exact ⟨rfl, eb, hb, _, Gr.refl _ _, hM0, rfl⟩
        intro h15_0
        first | rw [if_neg h15_0] at hP | rw [if_pos (Decidable.not_not.1 h15_0)] at hP | skip
        as_aux_lemma =>
          refine SPL_y (y_assign rfl) rfl ?_
          refine SPL_nil ?_
          refine thenP_n ?_
          refine SP_cond_f rfl ?_
          refine SP_seq ?_
          refine SP_region ?_
          refine SPL_if (y_eql rfl rfl) rfl ?_ ?_
          · intro h16_0
            first | rw [if_pos h16_0] at hP | rw [if_neg h16_0] at hP | skip
            as_aux_lemma =>
              refine SPL_y (y_assign rfl) rfl ?_
              refine SPL_nil ?_
              refine thenP_n ?_
              refine SP_cond_t rfl ?_
              refine SP_region ?_
              refine SPL_y (y_move rfl) rfl ?_
              obtain ⟨v5, m9, hq9, hP⟩ := bnd2 hP
              refine SPL_one rfl (SP1_call (cm_pop x eb hb hq9 _ hM0) Tryz.call99 rfl rfl (by repeat (first | exact Part.nil _ | (apply Part.cons; with_reducible (first | exact P0 | exact P1 | exact P2 | exact P3 | exact P4 | exact P5 | exact P6 | exact P7 | exact P8 | exact P9 | exact P10 | exact P11 | exact P12 | exact P13 | exact P14 | exact P15 | exact P16 | exact P17 | exact P18 | exact P19 | exact P20 | exact P21 | exact P22 | exact P23)) | (apply Part.flat; simp only [List.cons_append, List.nil_append]) | (apply Part.cons; (first | exact P0 | exact P1 | exact P2 | exact P3 | exact P4 | exact P5 | exact P6 | exact P7 | exact P8 | exact P9 | exact P10 | exact P11 | exact P12 | exact P13 | exact P14 | exact P15 | exact P16 | exact P17 | exact P18 | exact P19 | exact P20 | exact P21 | exact P22 | exact P23)) | (apply Part.nilc))) ?_)
              rintro v post H' ⟨rfl, sg9, hM9, rfl⟩ hH
              try simp only [List.cons_append, List.nil_append] at hH
              subst hH
              refine SPL_nil ?_
              refine inBlockP_n ?_
              refine bodyP_end (H' := [sg9]) (Res0 rfl) (by repeat (first | exact Part.nil _ | (apply Part.cons; with_reducible (first | exact P0 | exact P1 | exact P2 | exact P3 | exact P4 | exact P5 | exact P6 | exact P7 | exact P8 | exact P9 | exact P10 | exact P11 | exact P12 | exact P13 | exact P14 | exact P15 | exact P16 | exact P17 | exact P18 | exact P19 | exact P20 | exact P21 | exact P22 | exact P23)) | (apply Part.flat; simp only [List.cons_append, List.nil_append]) | (apply Part.cons; (first | exact P0 | exact P1 | exact P2 | exact P3 | exact P4 | exact P5 | exact P6 | exact P7 | exact P8 | exact P9 | exact P10 | exact P11 | exact P12 | exact P13 | exact P14 | exact P15 | exact P16 | exact P17 | exact P18 | exact P19 | exact P20 | exact P21 | exact P22 | exact P23)) | (apply Part.nilc))) ?_
              injection hP with hP
              subst hP
              exact ⟨rfl, eb, hb, _, Gr.refl _ _, hM9, rfl⟩
          intro h16_0
          first | rw [if_neg h16_0] at hP | rw [if_pos (Decidable.not_not.1 h16_0)] at hP | skip
          as_aux_lemma =>
            refine SPL_y (y_assign rfl) rfl ?_
            refine SPL_nil ?_
            refine thenP_n ?_
            refine SP_cond_f rfl ?_
            refine SP_seq ?_
            refine SP_region ?_
            refine SPL_if (y_eql rfl rfl) rfl ?_ ?_
            · intro h18_0
              first | rw [if_pos h18_0] at hP | rw [if_neg h18_0] at hP | skip
              as_aux_lemma =>
                refine SPL_y (y_assign rfl) rfl ?_
                refine SPL_nil ?_
                refine thenP_n ?_
                refine SP_cond_t rfl ?_
                refine SP_seq ?_
                unfold k6 at hP
                refine SP_region ?_
                refine SPL_y (y_move rfl) rfl ?_
                obtain ⟨v1, m1, hq1, hP⟩ := bnd2 hP
                refine SPL_one rfl (SP1_call (cm_pop x eb hb hq1 _ hM0) Tryz.call99 rfl rfl (by repeat (first | exact Part.nil _ | (apply Part.cons; with_reducible (first | exact P0 | exact P1 | exact P2 | exact P3 | exact P4 | exact P5 | exact P6 | exact P7 | exact P8 | exact P9 | exact P10 | exact P11 | exact P12 | exact P13 | exact P14 | exact P15 | exact P16 | exact P17 | exact P18 | exact P19 | exact P20 | exact P21 | exact P22 | exact P23)) | (apply Part.flat; simp only [List.cons_append, List.nil_append]) | (apply Part.cons; (first | exact P0 | exact P1 | exact P2 | exact P3 | exact P4 | exact P5 | exact P6 | exact P7 | exact P8 | exact P9 | exact P10 | exact P11 | exact P12 | exact P13 | exact P14 | exact P15 | exact P16 | exact P17 | exact P18 | exact P19 | exact P20 | exact P21 | exact P22 | exact P23)) | (apply Part.nilc))) ?_)
                rintro v post H' ⟨rfl, sg1, hM1, rfl⟩ hH
                try simp only [List.cons_append, List.nil_append] at hH
                subst hH
                refine SPL_one rfl (SP1_alloc Tryz.zeroValue42 rfl rfl ?_)
                intro b5
                refine SPL_one rfl (SP1_storeAll Tryz.sizeOf42 rfl rfl rfl rfl rfl (by first | exact U0 | exact U1 | exact U2 | exact U3 | exact U4 | exact U5 | exact U6 | exact U7 | exact U8 | exact U9 | exact U10 | exact U11 | exact U12 | exact U13 | exact U14 | exact U15 | exact U16 | exact U17 | exact U18 | exact U19 | exact U20 | exact U21 | exact U22 | exact U23) (by rfl) ?_)
                refine SPL_nil ?_
                refine thenP_n ?_
                refine SP_region ?_
                refine SPL_y (y_move rfl) rfl ?_
                refine SPL_y (y_fa fld_158_4 rfl) rfl ?_
                refine SPL_y (y_load Tryz.isAgg3 rfl (by repeat (first | exact Cell.amid hpre rfl | exact Cell.head rfl | apply Cell.tail))) rfl ?_
                refine SPL_y (y_fa fld_158_6 rfl) rfl ?_
                refine SPL_y (y_load Tryz.isAgg9 rfl (by repeat (first | exact Cell.amid hpre rfl | exact Cell.head rfl | apply Cell.tail))) rfl ?_
                refine SPL_y (y_loads Tryz.isAgg42 Tryz.sizeOf42 rfl rfl (by repeat (first | exact Cells.all _ | exact Cells.amid hpre rfl (by decide) | exact Cells.head rfl | apply Cells.tail))) rfl ?_
                refine SPL_y (y_fa fld_206_3 rfl) rfl ?_
                refine SPL_y (y_load Tryz.isAgg146 rfl (by repeat (first | exact Cell.amid hpre rfl | exact Cell.head rfl | apply Cell.tail))) rfl ?_
                refine SPL_y (y_buildN (l := [S d.s, I v1.t, .int .u64 v1.n, S v1.s, ePt eb q.e]) BN204 rfl (fill_env3 _ v1 _)) rfl ?_
                refine SPL_one rfl (SP1_box rfl rfl rfl ?_)
                intro b149
                obtain ⟨i2, m2, hq2, hP⟩ := bnd2 hP
                obtain ⟨rfl, rfl, hes2⟩ := newE_some hq2
                have hel2 := hM1.sc.el
                obtain ⟨sg2, hM2, hpt2⟩ := isRm_new hM1 b149 (e := ⟨d.s, v1, q.e⟩) (fun i hi => by rw [hel2]; exact hes2 i hi)
                refine SPL_part (H' := [sg1, blk b149 204 (evV eb ⟨d.s, v1, q.e⟩), blk b3 206 (tskV eb q), blk b4 158 (ndV d), blk b5 42 (valV v1)]) (by repeat (first | exact Part.nil _ | (apply Part.cons; with_reducible (first | exact P0 | exact P1 | exact P2 | exact P3 | exact P4 | exact P5 | exact P6 | exact P7 | exact P8 | exact P9 | exact P10 | exact P11 | exact P12 | exact P13 | exact P14 | exact P15 | exact P16 | exact P17 | exact P18 | exact P19 | exact P20 | exact P21 | exact P22 | exact P23)) | (apply Part.flat; simp only [List.cons_append, List.nil_append]) | (apply Part.cons; (first | exact P0 | exact P1 | exact P2 | exact P3 | exact P4 | exact P5 | exact P6 | exact P7 | exact P8 | exact P9 | exact P10 | exact P11 | exact P12 | exact P13 | exact P14 | exact P15 | exact P16 | exact P17 | exact P18 | exact P19 | exact P20 | exact P21 | exact P22 | exact P23)) | (apply Part.nilc))) ?_
                refine SPL_part (hpt2 [blk b3 206 (tskV eb q), blk b4 158 (ndV d), blk b5 42 (valV v1)]) ?_
                rw [newPt (eb := eb) hel2]
                refine SPL_one rfl (SP1_call (cm_do x (eb ++ [b149]) hb hP _ hM2) Tryz.call95 rfl rfl (by repeat (first | exact Part.nil _ | (apply Part.cons; with_reducible (first | exact P0 | exact P1 | exact P2 | exact P3 | exact P4 | exact P5 | exact P6 | exact P7 | exact P8 | exact P9 | exact P10 | exact P11 | exact P12 | exact P13 | exact P14 | exact P15 | exact P16 | exact P17 | exact P18 | exact P19 | exact P20 | exact P21 | exact P22 | exact P23)) | (apply Part.flat; simp only [List.cons_append, List.nil_append]) | (apply Part.cons; (first | exact P0 | exact P1 | exact P2 | exact P3 | exact P4 | exact P5 | exact P6 | exact P7 | exact P8 | exact P9 | exact P10 | exact P11 | exact P12 | exact P13 | exact P14 | exact P15 | exact P16 | exact P17 | exact P18 | exact P19 | exact P20 | exact P21 | exact P22 | exact P23)) | (apply Part.nilc))) ?_)
                rintro v post H' ⟨rfl, sg9, hM9, rfl⟩ hH
                try simp only [List.cons_append, List.nil_append] at hH
                subst hH
                refine SPL_nil ?_
                refine inBlockP_n ?_
                refine bodyP_end (H' := [sg9]) (Res0 rfl) (by repeat (first | exact Part.nil _ | (apply Part.cons; with_reducible (first | exact P0 | exact P1 | exact P2 | exact P3 | exact P4 | exact P5 | exact P6 | exact P7 | exact P8 | exact P9 | exact P10 | exact P11 | exact P12 | exact P13 | exact P14 | exact P15 | exact P16 | exact P17 | exact P18 | exact P19 | exact P20 | exact P21 | exact P22 | exact P23)) | (apply Part.flat; simp only [List.cons_append, List.nil_append]) | (apply Part.cons; (first | exact P0 | exact P1 | exact P2 | exact P3 | exact P4 | exact P5 | exact P6 | exact P7 | exact P8 | exact P9 | exact P10 | exact P11 | exact P12 | exact P13 | exact P14 | exact P15 | exact P16 | exact P17 | exact P18 | exact P19 | exact P20 | exact P21 | exact P22 | exact P23)) | (apply Part.nilc))) ?_
                exact ⟨rfl, (eb ++ [b149]), hb, _, ⟨List.prefix_append _ _, List.prefix_refl _⟩, hM9, rfl⟩
            intro h18_0
            first | rw [if_neg h18_0] at hP | rw [if_pos (Decidable.not_not.1 h18_0)] at hP | skip
            as_aux_lemma =>
              refine SPL_y (y_assign rfl) rfl ?_
              refine SPL_nil ?_
              refine thenP_n ?_
              refine SP_cond_f rfl ?_
              refine SP_seq ?_
              refine SP_region ?_
              refine SPL_if (y_eql rfl rfl) rfl ?_ ?_
              · intro h21_0
                first | rw [if_pos h21_0] at hP | rw [if_neg h21_0] at hP | skip
                as_aux_lemma =>
                  refine SPL_y (y_assign rfl) rfl ?_
                  refine SPL_nil ?_
                  refine thenP_n ?_
                  refine SP_cond_t rfl ?_
                  refine SP_seq ?_
                  unfold k7 at hP
                  refine SP_region ?_
                  refine SPL_y (y_move rfl) rfl ?_
                  obtain ⟨v1, m1, hq1, hP⟩ := bnd2 hP
                  refine SPL_one rfl (SP1_call (cm_pop x eb hb hq1 _ hM0) Tryz.call99 rfl rfl (by repeat (first | exact Part.nil _ | (apply Part.cons; with_reducible (first | exact P0 | exact P1 | exact P2 | exact P3 | exact P4 | exact P5 | exact P6 | exact P7 | exact P8 | exact P9 | exact P10 | exact P11 | exact P12 | exact P13 | exact P14 | exact P15 | exact P16 | exact P17 | exact P18 | exact P19 | exact P20 | exact P21 | exact P22 | exact P23)) | (apply Part.flat; simp only [List.cons_append, List.nil_append]) | (apply Part.cons; (first | exact P0 | exact P1 | exact P2 | exact P3 | exact P4 | exact P5 | exact P6 | exact P7 | exact P8 | exact P9 | exact P10 | exact P11 | exact P12 | exact P13 | exact P14 | exact P15 | exact P16 | exact P17 | exact P18 | exact P19 | exact P20 | exact P21 | exact P22 | exact P23)) | (apply Part.nilc))) ?_)
                  rintro v post H' ⟨rfl, sg1, hM1, rfl⟩ hH
                  try simp only [List.cons_append, List.nil_append] at hH
                  subst hH
                  refine SPL_one rfl (SP1_alloc Tryz.zeroValue42 rfl rfl ?_)
                  intro b6
                  refine SPL_one rfl (SP1_storeAll Tryz.sizeOf42 rfl rfl rfl rfl rfl (by first | exact U0 | exact U1 | exact U2 | exact U3 | exact U4 | exact U5 | exact U6 | exact U7 | exact U8 | exact U9 | exact U10 | exact U11 | exact U12 | exact U13 | exact U14 | exact U15 | exact U16 | exact U17 | exact U18 | exact U19 | exact U20 | exact U21 | exact U22 | exact U23) (by rfl) ?_)
                  refine SPL_nil ?_
                  refine thenP_n ?_
                  refine SP_seq ?_
                  refine SP_region ?_
                  refine SPL_y (y_move rfl) rfl ?_
                  obtain ⟨v2, m2, hq2, hP⟩ := bnd2 hP
                  refine SPL_one rfl (SP1_call (cm_pop x eb hb hq2 _ hM1) Tryz.call99 rfl rfl (by repeat (first | exact Part.nil _ | (apply Part.cons; with_reducible (first | exact P0 | exact P1 | exact P2 | exact P3 | exact P4 | exact P5 | exact P6 | exact P7 | exact P8 | exact P9 | exact P10 | exact P11 | exact P12 | exact P13 | exact P14 | exact P15 | exact P16 | exact P17 | exact P18 | exact P19 | exact P20 | exact P21 | exact P22 | exact P23)) | (apply Part.flat; simp only [List.cons_append, List.nil_append]) | (apply Part.cons; (first | exact P0 | exact P1 | exact P2 | exact P3 | exact P4 | exact P5 | exact P6 | exact P7 | exact P8 | exact P9 | exact P10 | exact P11 | exact P12 | exact P13 | exact P14 | exact P15 | exact P16 | exact P17 | exact P18 | exact P19 | exact P20 | exact P21 | exact P22 | exact P23)) | (apply Part.nilc))) ?_)
                  rintro v post H' ⟨rfl, sg2, hM2, rfl⟩ hH
                  try simp only [List.cons_append, List.nil_append] at hH
                  subst hH
                  refine SPL_one rfl (SP1_alloc Tryz.zeroValue42 rfl rfl ?_)
                  intro b7
                  refine SPL_one rfl (SP1_storeAll Tryz.sizeOf42 rfl rfl rfl rfl rfl (by first | exact U0 | exact U1 | exact U2 | exact U3 | exact U4 | exact U5 | exact U6 | exact U7 | exact U8 | exact U9 | exact U10 | exact U11 | exact U12 | exact U13 | exact U14 | exact U15 | exact U16 | exact U17 | exact U18 | exact U19 | exact U20 | exact U21 | exact U22 | exact U23) (by rfl) ?_)
                  refine SPL_nil ?_
                  refine thenP_n ?_
                  refine SP_seq ?_
                  obtain ⟨n1, hnd24, hP⟩ := bnd1 hP
                  obtain ⟨j24, nk24, hjE24, hj24, hnl24, hnS24, hnC24⟩ := node_at hM2 hnd24
                  refine SP_draw 9 [(0, 0), (1, 0), (2, 0), (4, 0), (3, 1), (5, 1), (6, 0), (7, 1), (8, 2), (9, 3)] mixed (by kernel_rfl) (fun _ _ _ _ _ h => h) (Part.refl _) ?_
                  refine SPO_p rfl (y_move rfl) rfl ?_
                  refine SPO_p rfl (y_nil rfl) rfl ?_
                  refine SPO_p rfl (y_fa fld_142_2 rfl) rfl ?_
                  refine SPO_p rfl (y_fa fld_158_1 rfl) rfl ?_
                  refine SPO_h rfl (y_load Tryz.isAgg65 rfl (by repeat (first | exact hnS24 _ | apply Cell.tail))) rfl ?_
                  refine SPO_h rfl (y_load Tryz.isAgg3 rfl (by repeat (first | exact Cell.amid hpre rfl | exact Cell.head rfl | apply Cell.tail))) rfl ?_
                  rw [hjE24]
                  refine SPO_p rfl (y_ia Tryz.underlying65 Tryz.sizeOf158 rfl rfl (by omega)) rfl ?_
                  refine SPO_h rfl (y_loads Tryz.isAgg158 Tryz.sizeOf158 rfl rfl (by repeat (first | exact hnC24 _ | apply Cells.tail))) rfl ?_
                  refine SPO_a rfl rfl (SP1_alloc Tryz.zeroValue158 rfl rfl ?_)
                  intro b8
                  refine ⟨⟨_, (by repeat (first | exact Part.nil _ | (apply Part.cons; with_reducible (first | exact P0 | exact P1 | exact P2 | exact P3 | exact P4 | exact P5 | exact P6 | exact P7 | exact P8 | exact P9 | exact P10 | exact P11 | exact P12 | exact P13 | exact P14 | exact P15 | exact P16 | exact P17 | exact P18 | exact P19 | exact P20 | exact P21 | exact P22 | exact P23)) | (apply Part.flat; simp only [List.cons_append, List.nil_append]) | (apply Part.cons; (first | exact P0 | exact P1 | exact P2 | exact P3 | exact P4 | exact P5 | exact P6 | exact P7 | exact P8 | exact P9 | exact P10 | exact P11 | exact P12 | exact P13 | exact P14 | exact P15 | exact P16 | exact P17 | exact P18 | exact P19 | exact P20 | exact P21 | exact P22 | exact P23)) | (apply Part.nilc)))⟩, ?_⟩
                  refine SPO_z (k := 0) rfl rfl (SP1_storeAll Tryz.sizeOf158 rfl rfl rfl rfl rfl (by first | exact U0 | exact U1 | exact U2 | exact U3 | exact U4 | exact U5 | exact U6 | exact U7 | exact U8 | exact U9 | exact U10 | exact U11 | exact U12 | exact U13 | exact U14 | exact U15 | exact U16 | exact U17 | exact U18 | exact U19 | exact U20 | exact U21 | exact U22 | exact U23) (by rfl) ?_)
                  refine SPO_nil ?_
                  refine thenP_n ?_
                  refine SP_seq ?_
                  obtain ⟨n2, hnd25, hP⟩ := bnd1 hP
                  obtain ⟨j25, nk25, hjE25, hj25, hnl25, hnS25, hnC25⟩ := node_at hM2 hnd25
                  refine SP_draw 9 [(0, 0), (1, 0), (2, 0), (4, 0), (3, 1), (5, 1), (6, 0), (7, 1), (8, 2), (9, 3)] mixed (by kernel_rfl) (fun _ _ _ _ _ h => h) (Part.refl _) ?_
                  refine SPO_p rfl (y_move rfl) rfl ?_
                  refine SPO_p rfl (y_nil rfl) rfl ?_
                  refine SPO_p rfl (y_fa fld_142_2 rfl) rfl ?_
                  refine SPO_p rfl (y_fa fld_158_4 rfl) rfl ?_
                  refine SPO_h rfl (y_load Tryz.isAgg65 rfl (by repeat (first | exact hnS25 _ | apply Cell.tail))) rfl ?_
                  refine SPO_h rfl (y_load Tryz.isAgg3 rfl (by repeat (first | exact Cell.amid hpre rfl | exact Cell.head rfl | apply Cell.tail))) rfl ?_
                  rw [hjE25]
                  refine SPO_p rfl (y_ia Tryz.underlying65 Tryz.sizeOf158 rfl rfl (by omega)) rfl ?_
                  refine SPO_h rfl (y_loads Tryz.isAgg158 Tryz.sizeOf158 rfl rfl (by repeat (first | exact hnC25 _ | apply Cells.tail))) rfl ?_
                  refine SPO_a rfl rfl (SP1_alloc Tryz.zeroValue158 rfl rfl ?_)
                  intro b9
                  refine ⟨⟨_, (by repeat (first | exact Part.nil _ | (apply Part.cons; with_reducible (first | exact P0 | exact P1 | exact P2 | exact P3 | exact P4 | exact P5 | exact P6 | exact P7 | exact P8 | exact P9 | exact P10 | exact P11 | exact P12 | exact P13 | exact P14 | exact P15 | exact P16 | exact P17 | exact P18 | exact P19 | exact P20 | exact P21 | exact P22 | exact P23)) | (apply Part.flat; simp only [List.cons_append, List.nil_append]) | (apply Part.cons; (first | exact P0 | exact P1 | exact P2 | exact P3 | exact P4 | exact P5 | exact P6 | exact P7 | exact P8 | exact P9 | exact P10 | exact P11 | exact P12 | exact P13 | exact P14 | exact P15 | exact P16 | exact P17 | exact P18 | exact P19 | exact P20 | exact P21 | exact P22 | exact P23)) | (apply Part.nilc)))⟩, ?_⟩
                  refine SPO_z (k := 0) rfl rfl (SP1_storeAll Tryz.sizeOf158 rfl rfl rfl rfl rfl (by first | exact U0 | exact U1 | exact U2 | exact U3 | exact U4 | exact U5 | exact U6 | exact U7 | exact U8 | exact U9 | exact U10 | exact U11 | exact U12 | exact U13 | exact U14 | exact U15 | exact U16 | exact U17 | exact U18 | exact U19 | exact U20 | exact U21 | exact U22 | exact U23) (by rfl) ?_)
                  refine SPO_nil ?_
                  refine thenP_n ?_
                  refine SP_seq ?_
                  refine SP_region ?_
                  refine SPL_y (y_fa fld_158_6 rfl) rfl ?_
                  refine SPL_y (y_load Tryz.isAgg9 rfl (by repeat (first | exact Cell.amid hpre rfl | exact Cell.head rfl | apply Cell.tail))) rfl ?_
                  refine SPL_y (y_loads Tryz.isAgg42 Tryz.sizeOf42 rfl rfl (by repeat (first | exact Cells.all _ | exact Cells.amid hpre rfl (by decide) | exact Cells.head rfl | apply Cells.tail))) rfl ?_
                  refine SPL_y (y_fa fld_206_3 rfl) rfl ?_
                  refine SPL_y (y_load Tryz.isAgg146 rfl (by repeat (first | exact Cell.amid hpre rfl | exact Cell.head rfl | apply Cell.tail))) rfl ?_
                  refine SPL_y (y_buildN (l := [S n1.s, I v2.t, .int .u64 v2.n, S v2.s, ePt eb q.e]) BN204 rfl (fill_env3 _ v2 _)) rfl ?_
                  refine SPL_one rfl (SP1_box rfl rfl rfl ?_)
                  intro b179
                  refine SPL_y (y_assign rfl) rfl ?_
                  refine SPL_nil ?_
                  refine thenP_n ?_
                  obtain ⟨i3, m3, hq3, hP⟩ := bnd2 hP
                  obtain ⟨rfl, rfl, hes3⟩ := newE_some hq3
                  have hel3 := hM2.sc.el
                  obtain ⟨sg3, hM3, hpt3⟩ := isRm_new hM2 b179 (e := ⟨n1.s, v2, q.e⟩) (fun i hi => by rw [hel3]; exact hes3 i hi)
                  refine SP_part (H' := [sg2, blk b179 204 (evV eb ⟨n1.s, v2, q.e⟩), blk b3 206 (tskV eb q), blk b4 158 (ndV d), blk b6 42 (valV v1), blk b7 42 (valV v2), blk b8 158 (ndV n1), blk b9 158 (ndV n2)]) (by repeat (first | exact Part.nil _ | (apply Part.cons; with_reducible (first | exact P0 | exact P1 | exact P2 | exact P3 | exact P4 | exact P5 | exact P6 | exact P7 | exact P8 | exact P9 | exact P10 | exact P11 | exact P12 | exact P13 | exact P14 | exact P15 | exact P16 | exact P17 | exact P18 | exact P19 | exact P20 | exact P21 | exact P22 | exact P23)) | (apply Part.flat; simp only [List.cons_append, List.nil_append]) | (apply Part.cons; (first | exact P0 | exact P1 | exact P2 | exact P3 | exact P4 | exact P5 | exact P6 | exact P7 | exact P8 | exact P9 | exact P10 | exact P11 | exact P12 | exact P13 | exact P14 | exact P15 | exact P16 | exact P17 | exact P18 | exact P19 | exact P20 | exact P21 | exact P22 | exact P23)) | (apply Part.nilc))) ?_
                  refine SP_part (hpt3 [blk b3 206 (tskV eb q), blk b4 158 (ndV d), blk b6 42 (valV v1), blk b7 42 (valV v2), blk b8 158 (ndV n1), blk b9 158 (ndV n2)]) ?_
                  rw [newPt (eb := eb) hel3]
                  refine SP_region ?_
                  refine SPL_y (y_move rfl) rfl ?_
                  refine SPL_y (y_fa fld_158_4 rfl) rfl ?_
                  refine SPL_y (y_load Tryz.isAgg3 rfl (by repeat (first | exact Cell.amid hpre rfl | exact Cell.head rfl | apply Cell.tail))) rfl ?_
                  refine SPL_y (y_fa fld_158_6 rfl) rfl ?_
                  refine SPL_y (y_load Tryz.isAgg9 rfl (by repeat (first | exact Cell.amid hpre rfl | exact Cell.head rfl | apply Cell.tail))) rfl ?_
                  refine SPL_y (y_loads Tryz.isAgg42 Tryz.sizeOf42 rfl rfl (by repeat (first | exact Cells.all _ | exact Cells.amid hpre rfl (by decide) | exact Cells.head rfl | apply Cells.tail))) rfl ?_
                  refine SPL_y (y_move rfl) rfl ?_
                  refine SPL_y (y_buildN (l := [S n2.s, I v1.t, .int .u64 v1.n, S v1.s, ePt (eb ++ [b179]) (some m2.envs.length)]) BN204 rfl (fill_env3 _ v1 _)) rfl ?_
                  refine SPL_one rfl (SP1_box rfl rfl rfl ?_)
                  intro b188
                  obtain ⟨i4, m4, hq4, hP⟩ := bnd2 hP
                  obtain ⟨rfl, rfl, hes4⟩ := newE_some hq4
                  have hel4 := hM3.sc.el
                  obtain ⟨sg4, hM4, hpt4⟩ := isRm_new hM3 b188 (e := ⟨n2.s, v1, (some m2.envs.length)⟩) (fun i hi => by rw [hel4]; exact hes4 i hi)
                  refine SPL_part (H' := [sg3, blk b188 204 (evV (eb ++ [b179]) ⟨n2.s, v1, (some m2.envs.length)⟩), blk b3 206 (tskV eb q), blk b4 158 (ndV d), blk b6 42 (valV v1), blk b7 42 (valV v2), blk b8 158 (ndV n1), blk b9 158 (ndV n2)]) (by repeat (first | exact Part.nil _ | (apply Part.cons; with_reducible (first | exact P0 | exact P1 | exact P2 | exact P3 | exact P4 | exact P5 | exact P6 | exact P7 | exact P8 | exact P9 | exact P10 | exact P11 | exact P12 | exact P13 | exact P14 | exact P15 | exact P16 | exact P17 | exact P18 | exact P19 | exact P20 | exact P21 | exact P22 | exact P23)) | (apply Part.flat; simp only [List.cons_append, List.nil_append]) | (apply Part.cons; (first | exact P0 | exact P1 | exact P2 | exact P3 | exact P4 | exact P5 | exact P6 | exact P7 | exact P8 | exact P9 | exact P10 | exact P11 | exact P12 | exact P13 | exact P14 | exact P15 | exact P16 | exact P17 | exact P18 | exact P19 | exact P20 | exact P21 | exact P22 | exact P23)) | (apply Part.nilc))) ?_
                  refine SPL_part (hpt4 [blk b3 206 (tskV eb q), blk b4 158 (ndV d), blk b6 42 (valV v1), blk b7 42 (valV v2), blk b8 158 (ndV n1), blk b9 158 (ndV n2)]) ?_
                  rw [newPt (eb := (eb ++ [b179])) hel4]
                  refine SPL_one rfl (SP1_call (cm_do x (eb ++ [b179] ++ [b188]) hb hP _ hM4) Tryz.call95 rfl rfl (by repeat (first | exact Part.nil _ | (apply Part.cons; with_reducible (first | exact P0 | exact P1 | exact P2 | exact P3 | exact P4 | exact P5 | exact P6 | exact P7 | exact P8 | exact P9 | exact P10 | exact P11 | exact P12 | exact P13 | exact P14 | exact P15 | exact P16 | exact P17 | exact P18 | exact P19 | exact P20 | exact P21 | exact P22 | exact P23)) | (apply Part.flat; simp only [List.cons_append, List.nil_append]) | (apply Part.cons; (first | exact P0 | exact P1 | exact P2 | exact P3 | exact P4 | exact P5 | exact P6 | exact P7 | exact P8 | exact P9 | exact P10 | exact P11 | exact P12 | exact P13 | exact P14 | exact P15 | exact P16 | exact P17 | exact P18 | exact P19 | exact P20 | exact P21 | exact P22 | exact P23)) | (apply Part.nilc))) ?_)
                  rintro v post H' ⟨rfl, sg9, hM9, rfl⟩ hH
                  try simp only [List.cons_append, List.nil_append] at hH
                  subst hH
                  refine SPL_nil ?_
                  refine inBlockP_n ?_
                  refine bodyP_end (H' := [sg9]) (Res0 rfl) (by repeat (first | exact Part.nil _ | (apply Part.cons; with_reducible (first | exact P0 | exact P1 | exact P2 | exact P3 | exact P4 | exact P5 | exact P6 | exact P7 | exact P8 | exact P9 | exact P10 | exact P11 | exact P12 | exact P13 | exact P14 | exact P15 | exact P16 | exact P17 | exact P18 | exact P19 | exact P20 | exact P21 | exact P22 | exact P23)) | (apply Part.flat; simp only [List.cons_append, List.nil_append]) | (apply Part.cons; (first | exact P0 | exact P1 | exact P2 | exact P3 | exact P4 | exact P5 | exact P6 | exact P7 | exact P8 | exact P9 | exact P10 | exact P11 | exact P12 | exact P13 | exact P14 | exact P15 | exact P16 | exact P17 | exact P18 | exact P19 | exact P20 | exact P21 | exact P22 | exact P23)) | (apply Part.nilc))) ?_
                  exact ⟨rfl, (eb ++ [b179] ++ [b188]), hb, _, ⟨(List.prefix_append _ _).trans (List.prefix_append _ _), List.prefix_refl _⟩, hM9, rfl⟩
              intro h21_0
              first | rw [if_neg h21_0] at hP | rw [if_pos (Decidable.not_not.1 h21_0)] at hP | skip
              as_aux_lemma =>
                refine SPL_y (y_assign rfl) rfl ?_
                refine SPL_nil ?_
                refine thenP_n ?_
                refine SP_cond_f rfl ?_
                refine SP_seq ?_
                refine SP_region ?_
                refine SPL_if (y_eql rfl rfl) rfl ?_ ?_
                · intro h28_0
                  first | rw [if_pos h28_0] at hP | rw [if_neg h28_0] at hP | skip
                  as_aux_lemma =>
                    refine SPL_y (y_assign rfl) rfl ?_
                    refine SPL_nil ?_
                    refine thenP_n ?_
                    refine SP_cond_t rfl ?_
                    refine SP_seq ?_
                    unfold k8 at hP
                    obtain ⟨qk, qn, qx, qe⟩ := q
                    rcases qe with _ | i
                    · cases hP
                    dsimp only at hP
                    obtain ⟨v1, m1, hq1, hP⟩ := bnd2 hP
                    obtain ⟨m2, hq2, hP⟩ := bnd1 hP
                    obtain ⟨hie, rfl⟩ := setE_some hq2
                    refine SP_draw (Hs := [blk b3 206 (tskV eb ⟨qk, qn, qx, some i⟩)]) 6 [(0, 0), (2, 0), (1, 1), (3, 2), (4, 0), (5, 0), (6, 3)] mixed (by kernel_rfl) (fun _ _ _ _ _ h => h) (by repeat (first | exact Part.nil _ | (apply Part.cons; with_reducible (first | exact P0 | exact P1 | exact P2 | exact P3 | exact P4 | exact P5 | exact P6 | exact P7 | exact P8 | exact P9 | exact P10 | exact P11 | exact P12 | exact P13 | exact P14 | exact P15 | exact P16 | exact P17 | exact P18 | exact P19 | exact P20 | exact P21 | exact P22 | exact P23)) | (apply Part.flat; simp only [List.cons_append, List.nil_append]) | (apply Part.cons; (first | exact P0 | exact P1 | exact P2 | exact P3 | exact P4 | exact P5 | exact P6 | exact P7 | exact P8 | exact P9 | exact P10 | exact P11 | exact P12 | exact P13 | exact P14 | exact P15 | exact P16 | exact P17 | exact P18 | exact P19 | exact P20 | exact P21 | exact P22 | exact P23)) | (apply Part.nilc))) ?_
                    refine SPO_p rfl (y_fa fld_206_3 rfl) rfl ?_
                    refine SPO_p rfl (y_move rfl) rfl ?_
                    refine SPO_h rfl (y_load Tryz.isAgg146 rfl (by repeat (first | exact Cell.amid hpre rfl | exact Cell.head rfl | apply Cell.tail))) rfl ?_
                    refine SPO_a rfl rfl (SP1_call (cm_pop x eb hb hq1 _ hM0) Tryz.call99 rfl rfl (by repeat (first | exact Part.nil _ | (apply Part.cons; with_reducible (first | exact P0 | exact P1 | exact P2 | exact P3 | exact P4 | exact P5 | exact P6 | exact P7 | exact P8 | exact P9 | exact P10 | exact P11 | exact P12 | exact P13 | exact P14 | exact P15 | exact P16 | exact P17 | exact P18 | exact P19 | exact P20 | exact P21 | exact P22 | exact P23)) | (apply Part.flat; simp only [List.cons_append, List.nil_append]) | (apply Part.cons; (first | exact P0 | exact P1 | exact P2 | exact P3 | exact P4 | exact P5 | exact P6 | exact P7 | exact P8 | exact P9 | exact P10 | exact P11 | exact P12 | exact P13 | exact P14 | exact P15 | exact P16 | exact P17 | exact P18 | exact P19 | exact P20 | exact P21 | exact P22 | exact P23)) | (apply Part.nilc))) ?_)
                    rintro v post H' ⟨rfl, sg1, hM1, rfl⟩ hH
                    try simp only [List.cons_append, List.nil_append] at hH
                    subst hH
                    refine ⟨⟨_, (by repeat (first | exact Part.nil _ | (apply Part.cons; with_reducible (first | exact P0 | exact P1 | exact P2 | exact P3 | exact P4 | exact P5 | exact P6 | exact P7 | exact P8 | exact P9 | exact P10 | exact P11 | exact P12 | exact P13 | exact P14 | exact P15 | exact P16 | exact P17 | exact P18 | exact P19 | exact P20 | exact P21 | exact P22 | exact P23)) | (apply Part.flat; simp only [List.cons_append, List.nil_append]) | (apply Part.cons; (first | exact P0 | exact P1 | exact P2 | exact P3 | exact P4 | exact P5 | exact P6 | exact P7 | exact P8 | exact P9 | exact P10 | exact P11 | exact P12 | exact P13 | exact P14 | exact P15 | exact P16 | exact P17 | exact P18 | exact P19 | exact P20 | exact P21 | exact P22 | exact P23)) | (apply Part.nilc)))⟩, ?_⟩
                    refine SPO_p rfl (y_nil rfl) rfl ?_
                    refine SPO_p rfl (y_fa fld_204_1 rfl) rfl ?_
                    obtain ⟨A, Z, hsE, hputE⟩ := isRm_env hM1 hie
                    rw [hsE]
                    refine SPO_openAt [A, blk (eb.getD i 0) 204 [S m1.envs[i].name, I m1.envs[i].v.t, .int .u64 m1.envs[i].v.n, S m1.envs[i].v.s, ePt eb m1.envs[i].up], Z] (by first | exact P0 | exact P1 | exact P2 | exact P3 | exact P4 | exact P5 | exact P6 | exact P7 | exact P8 | exact P9 | exact P10 | exact P11 | exact P12 | exact P13 | exact P14 | exact P15 | exact P16 | exact P17 | exact P18 | exact P19 | exact P20 | exact P21 | exact P22 | exact P23) ?_
                    simp only [List.cons_append, List.nil_append]
                    refine SPO_z (k := 0) rfl rfl (SP1_storesAt Tryz.sizeOf42 rfl rfl rfl rfl rfl (by first | exact U0 | exact U1 | exact U2 | exact U3 | exact U4 | exact U5 | exact U6 | exact U7 | exact U8 | exact U9 | exact U10 | exact U11 | exact U12 | exact U13 | exact U14 | exact U15 | exact U16 | exact U17 | exact U18 | exact U19 | exact U20 | exact U21 | exact U22 | exact U23) (by rfl) ?_)
                    refine SPO_nil ?_
                    refine thenP_n ?_
                    have hM2 := hputE ⟨m1.envs[i].name, v1, m1.envs[i].up⟩ rfl
                    refine SP_part (H' := [List.flatten [A, blk (eb.getD i 0) 204 [S m1.envs[i].name, I v1.t, .int .u64 v1.n, S v1.s, ePt eb m1.envs[i].up], Z], blk b3 206 (tskV eb ⟨qk, qn, qx, some i⟩), blk b4 158 (ndV d)]) (by repeat (first | exact Part.nil _ | (apply Part.cons; with_reducible (first | exact P0 | exact P1 | exact P2 | exact P3 | exact P4 | exact P5 | exact P6 | exact P7 | exact P8 | exact P9 | exact P10 | exact P11 | exact P12 | exact P13 | exact P14 | exact P15 | exact P16 | exact P17 | exact P18 | exact P19 | exact P20 | exact P21 | exact P22 | exact P23)) | (apply Part.flat; simp only [List.cons_append, List.nil_append]) | (apply Part.cons; (first | exact P0 | exact P1 | exact P2 | exact P3 | exact P4 | exact P5 | exact P6 | exact P7 | exact P8 | exact P9 | exact P10 | exact P11 | exact P12 | exact P13 | exact P14 | exact P15 | exact P16 | exact P17 | exact P18 | exact P19 | exact P20 | exact P21 | exact P22 | exact P23)) | (apply Part.nilc))) ?_
                    refine SP_region ?_
                    refine SPL_y (y_move rfl) rfl ?_
                    refine SPL_y (y_fa fld_158_4 rfl) rfl ?_
                    refine SPL_y (y_load Tryz.isAgg3 rfl (by repeat (first | exact Cell.amid hpre rfl | exact Cell.head rfl | apply Cell.tail))) rfl ?_
                    refine SPL_y (y_fa fld_206_3 rfl) rfl ?_
                    refine SPL_y (y_load Tryz.isAgg146 rfl (by repeat (first | exact Cell.amid hpre rfl | exact Cell.head rfl | apply Cell.tail))) rfl ?_
                    refine SPL_one rfl (SP1_call (cm_do x eb hb hP _ hM2) Tryz.call95 rfl rfl (by repeat (first | exact Part.nil _ | (apply Part.cons; with_reducible (first | exact P0 | exact P1 | exact P2 | exact P3 | exact P4 | exact P5 | exact P6 | exact P7 | exact P8 | exact P9 | exact P10 | exact P11 | exact P12 | exact P13 | exact P14 | exact P15 | exact P16 | exact P17 | exact P18 | exact P19 | exact P20 | exact P21 | exact P22 | exact P23)) | (apply Part.flat; simp only [List.cons_append, List.nil_append]) | (apply Part.cons; (first | exact P0 | exact P1 | exact P2 | exact P3 | exact P4 | exact P5 | exact P6 | exact P7 | exact P8 | exact P9 | exact P10 | exact P11 | exact P12 | exact P13 | exact P14 | exact P15 | exact P16 | exact P17 | exact P18 | exact P19 | exact P20 | exact P21 | exact P22 | exact P23)) | (apply Part.nilc))) ?_)
                    rintro v post H' ⟨rfl, sg9, hM9, rfl⟩ hH
                    try simp only [List.cons_append, List.nil_append] at hH
                    subst hH
                    refine SPL_nil ?_
                    refine inBlockP_n ?_
                    refine bodyP_end (H' := [sg9]) (Res0 rfl) (by repeat (first | exact Part.nil _ | (apply Part.cons; with_reducible (first | exact P0 | exact P1 | exact P2 | exact P3 | exact P4 | exact P5 | exact P6 | exact P7 | exact P8 | exact P9 | exact P10 | exact P11 | exact P12 | exact P13 | exact P14 | exact P15 | exact P16 | exact P17 | exact P18 | exact P19 | exact P20 | exact P21 | exact P22 | exact P23)) | (apply Part.flat; simp only [List.cons_append, List.nil_append]) | (apply Part.cons; (first | exact P0 | exact P1 | exact P2 | exact P3 | exact P4 | exact P5 | exact P6 | exact P7 | exact P8 | exact P9 | exact P10 | exact P11 | exact P12 | exact P13 | exact P14 | exact P15 | exact P16 | exact P17 | exact P18 | exact P19 | exact P20 | exact P21 | exact P22 | exact P23)) | (apply Part.nilc))) ?_
                    exact ⟨rfl, eb, hb, _, Gr.refl _ _, hM9, rfl⟩
                intro h28_0
                first | rw [if_neg h28_0] at hP | rw [if_pos (Decidable.not_not.1 h28_0)] at hP | skip
                as_aux_lemma =>
                  refine SPL_y (y_assign rfl) rfl ?_
                  refine SPL_nil ?_
                  refine thenP_n ?_
                  refine SP_cond_f rfl ?_
                  refine SP_seq ?_
                  refine SP_region ?_
                  refine SPL_if (y_eql rfl rfl) rfl ?_ ?_
                  · intro h31_0
                    first | rw [if_pos h31_0] at hP | rw [if_neg h31_0] at hP | skip
                    as_aux_lemma =>
                      refine SPL_y (y_assign rfl) rfl ?_
                      refine SPL_nil ?_
                      refine thenP_n ?_
                      refine SP_cond_t rfl ?_
                      refine SP_seq ?_
                      unfold k9 at hP
                      refine SP_region ?_
                      refine SPL_y (y_move rfl) rfl ?_
                      obtain ⟨v1, m1, hq1, hP⟩ := bnd2 hP
                      refine SPL_one rfl (SP1_call (cm_pop x eb hb hq1 _ hM0) Tryz.call99 rfl rfl (by repeat (first | exact Part.nil _ | (apply Part.cons; with_reducible (first | exact P0 | exact P1 | exact P2 | exact P3 | exact P4 | exact P5 | exact P6 | exact P7 | exact P8 | exact P9 | exact P10 | exact P11 | exact P12 | exact P13 | exact P14 | exact P15 | exact P16 | exact P17 | exact P18 | exact P19 | exact P20 | exact P21 | exact P22 | exact P23)) | (apply Part.flat; simp only [List.cons_append, List.nil_append]) | (apply Part.cons; (first | exact P0 | exact P1 | exact P2 | exact P3 | exact P4 | exact P5 | exact P6 | exact P7 | exact P8 | exact P9 | exact P10 | exact P11 | exact P12 | exact P13 | exact P14 | exact P15 | exact P16 | exact P17 | exact P18 | exact P19 | exact P20 | exact P21 | exact P22 | exact P23)) | (apply Part.nilc))) ?_)
                      rintro v post H' ⟨rfl, sg1, hM1, rfl⟩ hH
                      try simp only [List.cons_append, List.nil_append] at hH
                      subst hH
                      refine SPL_one rfl (SP1_alloc Tryz.zeroValue42 rfl rfl ?_)
                      intro b11
                      refine SPL_one rfl (SP1_storeAll Tryz.sizeOf42 rfl rfl rfl rfl rfl (by first | exact U0 | exact U1 | exact U2 | exact U3 | exact U4 | exact U5 | exact U6 | exact U7 | exact U8 | exact U9 | exact U10 | exact U11 | exact U12 | exact U13 | exact U14 | exact U15 | exact U16 | exact U17 | exact U18 | exact U19 | exact U20 | exact U21 | exact U22 | exact U23) (by rfl) ?_)
                      refine SPL_nil ?_
                      refine thenP_n ?_
                      refine SP_seq ?_
                      refine SP_region ?_
                      refine SPL_y (y_fa fld_206_3 rfl) rfl ?_
                      refine SPL_y (y_load Tryz.isAgg146 rfl (by repeat (first | exact Cell.amid hpre rfl | exact Cell.head rfl | apply Cell.tail))) rfl ?_
                      refine SPL_y (y_fa fld_158_6 rfl) rfl ?_
                      refine SPL_y (y_load Tryz.isAgg9 rfl (by repeat (first | exact Cell.amid hpre rfl | exact Cell.head rfl | apply Cell.tail))) rfl ?_
                      obtain ⟨r, hfr, hP⟩ := bnd1 hP
                      refine SPL_one rfl (SP1_call (cm_find x eb hb hfr _ hM1) Tryz.call100 rfl rfl (by repeat (first | exact Part.nil _ | (apply Part.cons; with_reducible (first | exact P0 | exact P1 | exact P2 | exact P3 | exact P4 | exact P5 | exact P6 | exact P7 | exact P8 | exact P9 | exact P10 | exact P11 | exact P12 | exact P13 | exact P14 | exact P15 | exact P16 | exact P17 | exact P18 | exact P19 | exact P20 | exact P21 | exact P22 | exact P23)) | (apply Part.flat; simp only [List.cons_append, List.nil_append]) | (apply Part.cons; (first | exact P0 | exact P1 | exact P2 | exact P3 | exact P4 | exact P5 | exact P6 | exact P7 | exact P8 | exact P9 | exact P10 | exact P11 | exact P12 | exact P13 | exact P14 | exact P15 | exact P16 | exact P17 | exact P18 | exact P19 | exact P20 | exact P21 | exact P22 | exact P23)) | (apply Part.nilc))) ?_)
                      rintro v post H' ⟨rfl, rfl⟩ hH
                      rcases r with _ | i
                      · try simp only [List.cons_append, List.nil_append] at hH
                        subst hH
                        try dsimp only [cond_true, cond_false, Bool.true_or, Bool.false_or] at hP
                        refine SPL_y (y_assign rfl) rfl ?_
                        refine SPL_nil ?_
                        refine thenP_n ?_
                        refine SP_seq ?_
                        refine SP_seq ?_
                        refine SP_region ?_
                        refine SPL_y (y_move rfl) rfl ?_
                        refine SPL_y (y_pneq_F Tryz.underlying146 rfl rfl) rfl ?_
                        refine SPL_nil ?_
                        refine thenP_n ?_
                        refine SP_cond_f rfl ?_
                        refine SP_skip ?_
                        refine thenP_n ?_
                        refine SP_region ?_
                        refine SPL_y (y_move rfl) rfl ?_
                        refine SPL_y (y_build B42 rfl rfl (by simp only [fillL, List.foldl_cons, List.foldl_nil, List.set_cons_zero, List.set_cons_succ]; exact rfl)) rfl ?_
                        refine SPL_y (y_fa fld_158_6 rfl) rfl ?_
                        refine SPL_y (y_load Tryz.isAgg9 rfl (by repeat (first | exact Cell.amid hpre rfl | exact Cell.head rfl | apply Cell.tail))) rfl ?_
                        refine SPL_y (y_build B42 rfl rfl (by simp only [fillL, List.foldl_cons, List.foldl_nil, List.set_cons_zero, List.set_cons_succ]; exact rfl)) rfl ?_
                        refine SPL_y (y_loads Tryz.isAgg42 Tryz.sizeOf42 rfl rfl (by repeat (first | exact Cells.all _ | exact Cells.amid hpre rfl (by decide) | exact Cells.head rfl | apply Cells.tail))) rfl ?_
                        refine SPL_one rfl (SP1_call (cm_set x eb hb ⟨4, 0, []⟩ ⟨3, 0, d.s⟩ v1 hP _ hM1) Tryz.call101 rfl rfl (by repeat (first | exact Part.nil _ | (apply Part.cons; with_reducible (first | exact P0 | exact P1 | exact P2 | exact P3 | exact P4 | exact P5 | exact P6 | exact P7 | exact P8 | exact P9 | exact P10 | exact P11 | exact P12 | exact P13 | exact P14 | exact P15 | exact P16 | exact P17 | exact P18 | exact P19 | exact P20 | exact P21 | exact P22 | exact P23)) | (apply Part.flat; simp only [List.cons_append, List.nil_append]) | (apply Part.cons; (first | exact P0 | exact P1 | exact P2 | exact P3 | exact P4 | exact P5 | exact P6 | exact P7 | exact P8 | exact P9 | exact P10 | exact P11 | exact P12 | exact P13 | exact P14 | exact P15 | exact P16 | exact P17 | exact P18 | exact P19 | exact P20 | exact P21 | exact P22 | exact P23)) | (apply Part.nilc))) ?_)
                        rintro v post H' ⟨rfl, sg9, hM9, rfl⟩ hH
                        try simp only [List.cons_append, List.nil_append] at hH
                        subst hH
                        refine SPL_nil ?_
                        refine inBlockP_n ?_
                        refine bodyP_end (H' := [sg9]) (Res0 rfl) (by repeat (first | exact Part.nil _ | (apply Part.cons; with_reducible (first | exact P0 | exact P1 | exact P2 | exact P3 | exact P4 | exact P5 | exact P6 | exact P7 | exact P8 | exact P9 | exact P10 | exact P11 | exact P12 | exact P13 | exact P14 | exact P15 | exact P16 | exact P17 | exact P18 | exact P19 | exact P20 | exact P21 | exact P22 | exact P23)) | (apply Part.flat; simp only [List.cons_append, List.nil_append]) | (apply Part.cons; (first | exact P0 | exact P1 | exact P2 | exact P3 | exact P4 | exact P5 | exact P6 | exact P7 | exact P8 | exact P9 | exact P10 | exact P11 | exact P12 | exact P13 | exact P14 | exact P15 | exact P16 | exact P17 | exact P18 | exact P19 | exact P20 | exact P21 | exact P22 | exact P23)) | (apply Part.nilc))) ?_
                        exact ⟨rfl, eb, hb, _, Gr.refl _ _, hM9, rfl⟩
                      · try simp only [List.cons_append, List.nil_append] at hH
                        subst hH
                        try dsimp only [cond_true, cond_false, Bool.true_or, Bool.false_or] at hP
                        refine SPL_y (y_assign rfl) rfl ?_
                        refine SPL_nil ?_
                        refine thenP_n ?_
                        refine SP_seq ?_
                        refine SP_seq ?_
                        refine SP_region ?_
                        refine SPL_y (y_move rfl) rfl ?_
                        refine SPL_y (y_pneq_T Tryz.underlying146 rfl rfl) rfl ?_
                        refine SPL_nil ?_
                        refine thenP_n ?_
                        refine SP_cond_t rfl ?_
                        refine SP_seq ?_
                        obtain ⟨hie, rfl⟩ := setE_some hP
                        obtain ⟨A, Z, hsE, hputE⟩ := isRm_env hM1 hie
                        rw [hsE]
                        refine SP_openAt [A, blk (eb.getD i 0) 204 [S m1.envs[i].name, I m1.envs[i].v.t, .int .u64 m1.envs[i].v.n, S m1.envs[i].v.s, ePt eb m1.envs[i].up], Z] (by first | exact P0 | exact P1 | exact P2 | exact P3 | exact P4 | exact P5 | exact P6 | exact P7 | exact P8 | exact P9 | exact P10 | exact P11 | exact P12 | exact P13 | exact P14 | exact P15 | exact P16 | exact P17 | exact P18 | exact P19 | exact P20 | exact P21 | exact P22 | exact P23) ?_
                        simp only [List.cons_append, List.nil_append]
                        refine SP_region ?_
                        refine SPL_y (y_move rfl) rfl ?_
                        refine SPL_y (y_loads Tryz.isAgg42 Tryz.sizeOf42 rfl rfl (by repeat (first | exact Cells.all _ | exact Cells.amid hpre rfl (by decide) | exact Cells.head rfl | apply Cells.tail))) rfl ?_
                        refine SPL_y (y_nil rfl) rfl ?_
                        refine SPL_y (y_fa fld_204_1 rfl) rfl ?_
                        refine SPL_one rfl (SP1_storesAt Tryz.sizeOf42 rfl rfl rfl rfl rfl (by first | exact U0 | exact U1 | exact U2 | exact U3 | exact U4 | exact U5 | exact U6 | exact U7 | exact U8 | exact U9 | exact U10 | exact U11 | exact U12 | exact U13 | exact U14 | exact U15 | exact U16 | exact U17 | exact U18 | exact U19 | exact U20 | exact U21 | exact U22 | exact U23) (by rfl) ?_)
                        refine SPL_nil ?_
                        refine thenP_n ?_
                        refine SP_ret ?_
                        refine thenP_ret (inBlockP_ret (bodyP_ret (H' := [List.flatten [A, blk (eb.getD i 0) 204 [S m1.envs[i].name, I v1.t, .int .u64 v1.n, S v1.s, ePt eb m1.envs[i].up], Z]]) (Res0 rfl) (by repeat (first | exact Part.nil _ | (apply Part.cons; with_reducible (first | exact P0 | exact P1 | exact P2 | exact P3 | exact P4 | exact P5 | exact P6 | exact P7 | exact P8 | exact P9 | exact P10 | exact P11 | exact P12 | exact P13 | exact P14 | exact P15 | exact P16 | exact P17 | exact P18 | exact P19 | exact P20 | exact P21 | exact P22 | exact P23)) | (apply Part.flat; simp only [List.cons_append, List.nil_append]) | (apply Part.cons; (first | exact P0 | exact P1 | exact P2 | exact P3 | exact P4 | exact P5 | exact P6 | exact P7 | exact P8 | exact P9 | exact P10 | exact P11 | exact P12 | exact P13 | exact P14 | exact P15 | exact P16 | exact P17 | exact P18 | exact P19 | exact P20 | exact P21 | exact P22 | exact P23)) | (apply Part.nilc))) ?_))
                        exact ⟨rfl, eb, hb, _, Gr.refl _ _, hputE ⟨m1.envs[i].name, v1, m1.envs[i].up⟩ rfl, rfl⟩
                  intro h31_0
                  first | rw [if_neg h31_0] at hP | rw [if_pos (Decidable.not_not.1 h31_0)] at hP | skip
                  as_aux_lemma =>
                    refine SPL_y (y_assign rfl) rfl ?_
                    refine SPL_nil ?_
                    refine thenP_n ?_
                    refine SP_cond_f rfl ?_
                    refine SP_seq ?_
                    refine SP_region ?_
                    refine SPL_if (y_eql rfl rfl) rfl ?_ ?_
                    · intro h37_0
                      first | rw [if_pos h37_0] at hP | rw [if_neg h37_0] at hP | skip
                      as_aux_lemma =>
                        refine SPL_y (y_assign rfl) rfl ?_
                        refine SPL_nil ?_
                        refine thenP_n ?_
                        refine SP_cond_t rfl ?_
                        refine SP_seq ?_
                        unfold k10 at hP
                        refine SP_region ?_
                        refine SPL_y (y_move rfl) rfl ?_
                        obtain ⟨v1, m1, hq1, hP⟩ := bnd2 hP
                        refine SPL_one rfl (SP1_call (cm_pop x eb hb hq1 _ hM0) Tryz.call99 rfl rfl (by repeat (first | exact Part.nil _ | (apply Part.cons; with_reducible (first | exact P0 | exact P1 | exact P2 | exact P3 | exact P4 | exact P5 | exact P6 | exact P7 | exact P8 | exact P9 | exact P10 | exact P11 | exact P12 | exact P13 | exact P14 | exact P15 | exact P16 | exact P17 | exact P18 | exact P19 | exact P20 | exact P21 | exact P22 | exact P23)) | (apply Part.flat; simp only [List.cons_append, List.nil_append]) | (apply Part.cons; (first | exact P0 | exact P1 | exact P2 | exact P3 | exact P4 | exact P5 | exact P6 | exact P7 | exact P8 | exact P9 | exact P10 | exact P11 | exact P12 | exact P13 | exact P14 | exact P15 | exact P16 | exact P17 | exact P18 | exact P19 | exact P20 | exact P21 | exact P22 | exact P23)) | (apply Part.nilc))) ?_)
                        rintro v post H' ⟨rfl, sg1, hM1, rfl⟩ hH
                        try simp only [List.cons_append, List.nil_append] at hH
                        subst hH
                        refine SPL_one rfl (SP1_alloc Tryz.zeroValue42 rfl rfl ?_)
                        intro b13
                        refine SPL_one rfl (SP1_storeAll Tryz.sizeOf42 rfl rfl rfl rfl rfl (by first | exact U0 | exact U1 | exact U2 | exact U3 | exact U4 | exact U5 | exact U6 | exact U7 | exact U8 | exact U9 | exact U10 | exact U11 | exact U12 | exact U13 | exact U14 | exact U15 | exact U16 | exact U17 | exact U18 | exact U19 | exact U20 | exact U21 | exact U22 | exact U23) (by rfl) ?_)
                        refine SPL_nil ?_
                        refine thenP_n ?_
                        refine SP_seq ?_
                        refine SP_region ?_
                        refine SPL_y (y_move rfl) rfl ?_
                        obtain ⟨v2, m2, hq2, hP⟩ := bnd2 hP
                        refine SPL_one rfl (SP1_call (cm_pop x eb hb hq2 _ hM1) Tryz.call99 rfl rfl (by repeat (first | exact Part.nil _ | (apply Part.cons; with_reducible (first | exact P0 | exact P1 | exact P2 | exact P3 | exact P4 | exact P5 | exact P6 | exact P7 | exact P8 | exact P9 | exact P10 | exact P11 | exact P12 | exact P13 | exact P14 | exact P15 | exact P16 | exact P17 | exact P18 | exact P19 | exact P20 | exact P21 | exact P22 | exact P23)) | (apply Part.flat; simp only [List.cons_append, List.nil_append]) | (apply Part.cons; (first | exact P0 | exact P1 | exact P2 | exact P3 | exact P4 | exact P5 | exact P6 | exact P7 | exact P8 | exact P9 | exact P10 | exact P11 | exact P12 | exact P13 | exact P14 | exact P15 | exact P16 | exact P17 | exact P18 | exact P19 | exact P20 | exact P21 | exact P22 | exact P23)) | (apply Part.nilc))) ?_)
                        rintro v post H' ⟨rfl, sg2, hM2, rfl⟩ hH
                        try simp only [List.cons_append, List.nil_append] at hH
                        subst hH
                        refine SPL_one rfl (SP1_alloc Tryz.zeroValue42 rfl rfl ?_)
                        intro b14
                        refine SPL_one rfl (SP1_storeAll Tryz.sizeOf42 rfl rfl rfl rfl rfl (by first | exact U0 | exact U1 | exact U2 | exact U3 | exact U4 | exact U5 | exact U6 | exact U7 | exact U8 | exact U9 | exact U10 | exact U11 | exact U12 | exact U13 | exact U14 | exact U15 | exact U16 | exact U17 | exact U18 | exact U19 | exact U20 | exact U21 | exact U22 | exact U23) (by rfl) ?_)
                        refine SPL_nil ?_
                        refine thenP_n ?_
                        refine SP_seq ?_
                        refine SP_region ?_
                        refine SPL_y (y_move rfl) rfl ?_
                        obtain ⟨v3, m3, hq3, hP⟩ := bnd2 hP
                        refine SPL_one rfl (SP1_call (cm_pop x eb hb hq3 _ hM2) Tryz.call99 rfl rfl (by repeat (first | exact Part.nil _ | (apply Part.cons; with_reducible (first | exact P0 | exact P1 | exact P2 | exact P3 | exact P4 | exact P5 | exact P6 | exact P7 | exact P8 | exact P9 | exact P10 | exact P11 | exact P12 | exact P13 | exact P14 | exact P15 | exact P16 | exact P17 | exact P18 | exact P19 | exact P20 | exact P21 | exact P22 | exact P23)) | (apply Part.flat; simp only [List.cons_append, List.nil_append]) | (apply Part.cons; (first | exact P0 | exact P1 | exact P2 | exact P3 | exact P4 | exact P5 | exact P6 | exact P7 | exact P8 | exact P9 | exact P10 | exact P11 | exact P12 | exact P13 | exact P14 | exact P15 | exact P16 | exact P17 | exact P18 | exact P19 | exact P20 | exact P21 | exact P22 | exact P23)) | (apply Part.nilc))) ?_)
                        rintro v post H' ⟨rfl, sg3, hM3, rfl⟩ hH
                        try simp only [List.cons_append, List.nil_append] at hH
                        subst hH
                        refine SPL_one rfl (SP1_alloc Tryz.zeroValue42 rfl rfl ?_)
                        intro b15
                        refine SPL_one rfl (SP1_storeAll Tryz.sizeOf42 rfl rfl rfl rfl rfl (by first | exact U0 | exact U1 | exact U2 | exact U3 | exact U4 | exact U5 | exact U6 | exact U7 | exact U8 | exact U9 | exact U10 | exact U11 | exact U12 | exact U13 | exact U14 | exact U15 | exact U16 | exact U17 | exact U18 | exact U19 | exact U20 | exact U21 | exact U22 | exact U23) (by rfl) ?_)
                        refine SPL_nil ?_
                        refine thenP_n ?_
                        refine SP_region ?_
                        refine SPL_y (y_move rfl) rfl ?_
                        refine SPL_y (y_loads Tryz.isAgg42 Tryz.sizeOf42 rfl rfl (by repeat (first | exact Cells.all _ | exact Cells.amid hpre rfl (by decide) | exact Cells.head rfl | apply Cells.tail))) rfl ?_
                        refine SPL_y (y_loads Tryz.isAgg42 Tryz.sizeOf42 rfl rfl (by repeat (first | exact Cells.all _ | exact Cells.amid hpre rfl (by decide) | exact Cells.head rfl | apply Cells.tail))) rfl ?_
                        refine SPL_y (y_loads Tryz.isAgg42 Tryz.sizeOf42 rfl rfl (by repeat (first | exact Cells.all _ | exact Cells.amid hpre rfl (by decide) | exact Cells.head rfl | apply Cells.tail))) rfl ?_
                        refine SPL_one rfl (SP1_call (cm_set x eb hb v3 v2 v1 hP _ hM3) Tryz.call101 rfl rfl (by repeat (first | exact Part.nil _ | (apply Part.cons; with_reducible (first | exact P0 | exact P1 | exact P2 | exact P3 | exact P4 | exact P5 | exact P6 | exact P7 | exact P8 | exact P9 | exact P10 | exact P11 | exact P12 | exact P13 | exact P14 | exact P15 | exact P16 | exact P17 | exact P18 | exact P19 | exact P20 | exact P21 | exact P22 | exact P23)) | (apply Part.flat; simp only [List.cons_append, List.nil_append]) | (apply Part.cons; (first | exact P0 | exact P1 | exact P2 | exact P3 | exact P4 | exact P5 | exact P6 | exact P7 | exact P8 | exact P9 | exact P10 | exact P11 | exact P12 | exact P13 | exact P14 | exact P15 | exact P16 | exact P17 | exact P18 | exact P19 | exact P20 | exact P21 | exact P22 | exact P23)) | (apply Part.nilc))) ?_)
                        rintro v post H' ⟨rfl, sg9, hM9, rfl⟩ hH
                        try simp only [List.cons_append, List.nil_append] at hH
                        subst hH
                        refine SPL_nil ?_
                        refine inBlockP_n ?_
                        refine bodyP_end (H' := [sg9]) (Res0 rfl) (by repeat (first | exact Part.nil _ | (apply Part.cons; with_reducible (first | exact P0 | exact P1 | exact P2 | exact P3 | exact P4 | exact P5 | exact P6 | exact P7 | exact P8 | exact P9 | exact P10 | exact P11 | exact P12 | exact P13 | exact P14 | exact P15 | exact P16 | exact P17 | exact P18 | exact P19 | exact P20 | exact P21 | exact P22 | exact P23)) | (apply Part.flat; simp only [List.cons_append, List.nil_append]) | (apply Part.cons; (first | exact P0 | exact P1 | exact P2 | exact P3 | exact P4 | exact P5 | exact P6 | exact P7 | exact P8 | exact P9 | exact P10 | exact P11 | exact P12 | exact P13 | exact P14 | exact P15 | exact P16 | exact P17 | exact P18 | exact P19 | exact P20 | exact P21 | exact P22 | exact P23)) | (apply Part.nilc))) ?_
                        exact ⟨rfl, eb, hb, _, Gr.refl _ _, hM9, rfl⟩
                    intro h37_0
                    first | rw [if_neg h37_0] at hP | rw [if_pos (Decidable.not_not.1 h37_0)] at hP | skip
                    as_aux_lemma =>
                      refine SPL_y (y_assign rfl) rfl ?_
                      refine SPL_nil ?_
                      refine thenP_n ?_
                      refine SP_cond_f rfl ?_
                      refine SP_seq ?_
                      refine SP_region ?_
                      refine SPL_if (y_eql rfl rfl) rfl ?_ ?_
                      · intro h42_0
                        first | rw [if_pos h42_0] at hP | rw [if_neg h42_0] at hP | skip
                        as_aux_lemma =>
                          refine SPL_y (y_assign rfl) rfl ?_
                          refine SPL_nil ?_
                          refine thenP_n ?_
                          refine SP_cond_t rfl ?_
                          refine SP_seq ?_
                          refine SP_region ?_
                          refine SPL_y (y_move rfl) rfl ?_
                          obtain ⟨v1, m1, hq1, hP⟩ := bnd2 hP
                          refine SPL_one rfl (SP1_call (cm_pop x eb hb hq1 _ hM0) Tryz.call99 rfl rfl (by repeat (first | exact Part.nil _ | (apply Part.cons; with_reducible (first | exact P0 | exact P1 | exact P2 | exact P3 | exact P4 | exact P5 | exact P6 | exact P7 | exact P8 | exact P9 | exact P10 | exact P11 | exact P12 | exact P13 | exact P14 | exact P15 | exact P16 | exact P17 | exact P18 | exact P19 | exact P20 | exact P21 | exact P22 | exact P23)) | (apply Part.flat; simp only [List.cons_append, List.nil_append]) | (apply Part.cons; (first | exact P0 | exact P1 | exact P2 | exact P3 | exact P4 | exact P5 | exact P6 | exact P7 | exact P8 | exact P9 | exact P10 | exact P11 | exact P12 | exact P13 | exact P14 | exact P15 | exact P16 | exact P17 | exact P18 | exact P19 | exact P20 | exact P21 | exact P22 | exact P23)) | (apply Part.nilc))) ?_)
                          rintro v post H' ⟨rfl, sg1, hM1, rfl⟩ hH
                          try simp only [List.cons_append, List.nil_append] at hH
                          subst hH
                          refine SPL_one rfl (SP1_alloc Tryz.zeroValue42 rfl rfl ?_)
                          intro b16
                          refine SPL_one rfl (SP1_storeAll Tryz.sizeOf42 rfl rfl rfl rfl rfl (by first | exact U0 | exact U1 | exact U2 | exact U3 | exact U4 | exact U5 | exact U6 | exact U7 | exact U8 | exact U9 | exact U10 | exact U11 | exact U12 | exact U13 | exact U14 | exact U15 | exact U16 | exact U17 | exact U18 | exact U19 | exact U20 | exact U21 | exact U22 | exact U23) (by rfl) ?_)
                          refine SPL_nil ?_
                          refine thenP_n ?_
                          refine SP_seq ?_
                          refine SP_region ?_
                          refine SPL_y (y_loads Tryz.isAgg42 Tryz.sizeOf42 rfl rfl (by repeat (first | exact Cells.all _ | exact Cells.amid hpre rfl (by decide) | exact Cells.head rfl | apply Cells.tail))) rfl ?_
                          refine SPL_one rfl (SP1_call (api_Truthy v1) Tryz.call102 rfl rfl (by repeat (first | exact Part.nil _ | (apply Part.cons; with_reducible (first | exact P0 | exact P1 | exact P2 | exact P3 | exact P4 | exact P5 | exact P6 | exact P7 | exact P8 | exact P9 | exact P10 | exact P11 | exact P12 | exact P13 | exact P14 | exact P15 | exact P16 | exact P17 | exact P18 | exact P19 | exact P20 | exact P21 | exact P22 | exact P23)) | (apply Part.flat; simp only [List.cons_append, List.nil_append]) | (apply Part.cons; (first | exact P0 | exact P1 | exact P2 | exact P3 | exact P4 | exact P5 | exact P6 | exact P7 | exact P8 | exact P9 | exact P10 | exact P11 | exact P12 | exact P13 | exact P14 | exact P15 | exact P16 | exact P17 | exact P18 | exact P19 | exact P20 | exact P21 | exact P22 | exact P23)) | (apply Part.nilc))) ?_)
                          rintro v post H' ⟨rfl, rfl⟩ hH
                          try simp only [List.cons_append, List.nil_append] at hH
                          subst hH
                          generalize htr : truthy v1 = tr at hP
                          rcases tr with _ | _
                          · try dsimp only [cond_true, cond_false, Bool.true_or, Bool.false_or] at hP
                            refine SPL_nil ?_
                            refine thenP_n ?_
                            refine SP_cond_f rfl ?_
                            rw [if_neg (by decide)] at hP
                            refine SP_region ?_
                            refine SPL_y (y_move rfl) rfl ?_
                            refine SPL_y (y_fa fld_158_3 rfl) rfl ?_
                            refine SPL_y (y_load Tryz.isAgg3 rfl (by repeat (first | exact Cell.amid hpre rfl | exact Cell.head rfl | apply Cell.tail))) rfl ?_
                            refine SPL_y (y_fa fld_206_3 rfl) rfl ?_
                            refine SPL_y (y_load Tryz.isAgg146 rfl (by repeat (first | exact Cell.amid hpre rfl | exact Cell.head rfl | apply Cell.tail))) rfl ?_
                            refine SPL_one rfl (SP1_call (cm_do x eb hb hP _ hM1) Tryz.call95 rfl rfl (by repeat (first | exact Part.nil _ | (apply Part.cons; with_reducible (first | exact P0 | exact P1 | exact P2 | exact P3 | exact P4 | exact P5 | exact P6 | exact P7 | exact P8 | exact P9 | exact P10 | exact P11 | exact P12 | exact P13 | exact P14 | exact P15 | exact P16 | exact P17 | exact P18 | exact P19 | exact P20 | exact P21 | exact P22 | exact P23)) | (apply Part.flat; simp only [List.cons_append, List.nil_append]) | (apply Part.cons; (first | exact P0 | exact P1 | exact P2 | exact P3 | exact P4 | exact P5 | exact P6 | exact P7 | exact P8 | exact P9 | exact P10 | exact P11 | exact P12 | exact P13 | exact P14 | exact P15 | exact P16 | exact P17 | exact P18 | exact P19 | exact P20 | exact P21 | exact P22 | exact P23)) | (apply Part.nilc))) ?_)
                            rintro v post H' ⟨rfl, sg9, hM9, rfl⟩ hH
                            try simp only [List.cons_append, List.nil_append] at hH
                            subst hH
                            refine SPL_nil ?_
                            refine inBlockP_n ?_
                            refine bodyP_end (H' := [sg9]) (Res0 rfl) (by repeat (first | exact Part.nil _ | (apply Part.cons; with_reducible (first | exact P0 | exact P1 | exact P2 | exact P3 | exact P4 | exact P5 | exact P6 | exact P7 | exact P8 | exact P9 | exact P10 | exact P11 | exact P12 | exact P13 | exact P14 | exact P15 | exact P16 | exact P17 | exact P18 | exact P19 | exact P20 | exact P21 | exact P22 | exact P23)) | (apply Part.flat; simp only [List.cons_append, List.nil_append]) | (apply Part.cons; (first | exact P0 | exact P1 | exact P2 | exact P3 | exact P4 | exact P5 | exact P6 | exact P7 | exact P8 | exact P9 | exact P10 | exact P11 | exact P12 | exact P13 | exact P14 | exact P15 | exact P16 | exact P17 | exact P18 | exact P19 | exact P20 | exact P21 | exact P22 | exact P23)) | (apply Part.nilc))) ?_
                            exact ⟨rfl, eb, hb, _, Gr.refl _ _, hM9, rfl⟩
                          · try dsimp only [cond_true, cond_false, Bool.true_or, Bool.false_or] at hP
                            refine SPL_nil ?_
                            refine thenP_n ?_
                            refine SP_cond_t rfl ?_
                            rw [if_pos rfl] at hP
                            refine SP_region ?_
                            refine SPL_y (y_move rfl) rfl ?_
                            refine SPL_y (y_fa fld_158_2 rfl) rfl ?_
                            refine SPL_y (y_load Tryz.isAgg3 rfl (by repeat (first | exact Cell.amid hpre rfl | exact Cell.head rfl | apply Cell.tail))) rfl ?_
                            refine SPL_y (y_fa fld_206_3 rfl) rfl ?_
                            refine SPL_y (y_load Tryz.isAgg146 rfl (by repeat (first | exact Cell.amid hpre rfl | exact Cell.head rfl | apply Cell.tail))) rfl ?_
                            refine SPL_one rfl (SP1_call (cm_do x eb hb hP _ hM1) Tryz.call95 rfl rfl (by repeat (first | exact Part.nil _ | (apply Part.cons; with_reducible (first | exact P0 | exact P1 | exact P2 | exact P3 | exact P4 | exact P5 | exact P6 | exact P7 | exact P8 | exact P9 | exact P10 | exact P11 | exact P12 | exact P13 | exact P14 | exact P15 | exact P16 | exact P17 | exact P18 | exact P19 | exact P20 | exact P21 | exact P22 | exact P23)) | (apply Part.flat; simp only [List.cons_append, List.nil_append]) | (apply Part.cons; (first | exact P0 | exact P1 | exact P2 | exact P3 | exact P4 | exact P5 | exact P6 | exact P7 | exact P8 | exact P9 | exact P10 | exact P11 | exact P12 | exact P13 | exact P14 | exact P15 | exact P16 | exact P17 | exact P18 | exact P19 | exact P20 | exact P21 | exact P22 | exact P23)) | (apply Part.nilc))) ?_)
                            rintro v post H' ⟨rfl, sg9, hM9, rfl⟩ hH
                            try simp only [List.cons_append, List.nil_append] at hH
                            subst hH
                            refine SPL_nil ?_
                            refine inBlockP_n ?_
                            refine bodyP_end (H' := [sg9]) (Res0 rfl) (by repeat (first | exact Part.nil _ | (apply Part.cons; with_reducible (first | exact P0 | exact P1 | exact P2 | exact P3 | exact P4 | exact P5 | exact P6 | exact P7 | exact P8 | exact P9 | exact P10 | exact P11 | exact P12 | exact P13 | exact P14 | exact P15 | exact P16 | exact P17 | exact P18 | exact P19 | exact P20 | exact P21 | exact P22 | exact P23)) | (apply Part.flat; simp only [List.cons_append, List.nil_append]) | (apply Part.cons; (first | exact P0 | exact P1 | exact P2 | exact P3 | exact P4 | exact P5 | exact P6 | exact P7 | exact P8 | exact P9 | exact P10 | exact P11 | exact P12 | exact P13 | exact P14 | exact P15 | exact P16 | exact P17 | exact P18 | exact P19 | exact P20 | exact P21 | exact P22 | exact P23)) | (apply Part.nilc))) ?_
                            exact ⟨rfl, eb, hb, _, Gr.refl _ _, hM9, rfl⟩
                      intro h42_0
                      first | rw [if_neg h42_0] at hP | rw [if_pos (Decidable.not_not.1 h42_0)] at hP | skip
                      as_aux_lemma =>
                        refine SPL_y (y_assign rfl) rfl ?_
                        refine SPL_nil ?_
                        refine thenP_n ?_
                        refine SP_cond_f rfl ?_
                        refine SP_seq ?_
                        refine SP_region ?_
                        refine SPL_if (y_eql rfl rfl) rfl ?_ ?_
                        · intro h47_0
                          first | rw [if_pos h47_0] at hP | rw [if_neg h47_0] at hP | skip
                          as_aux_lemma =>
                            refine SPL_y (y_assign rfl) rfl ?_
                            refine SPL_nil ?_
                            refine thenP_n ?_
                            refine SP_cond_t rfl ?_
                            refine SP_seq ?_
                            refine SP_region ?_
                            refine SPL_y (y_move rfl) rfl ?_
                            refine SPL_y (y_fa fld_206_1 rfl) rfl ?_
                            refine SPL_y (y_load Tryz.isAgg3 rfl (by repeat (first | exact Cell.amid hpre rfl | exact Cell.head rfl | apply Cell.tail))) rfl ?_
                            refine SPL_y (y_fa fld_206_3 rfl) rfl ?_
                            refine SPL_y (y_load Tryz.isAgg146 rfl (by repeat (first | exact Cell.amid hpre rfl | exact Cell.head rfl | apply Cell.tail))) rfl ?_
                            obtain ⟨m1, hq1, hP⟩ := bnd1 hP
                            refine SPL_one rfl (SP1_call (cm_do x eb hb hq1 _ hM0) Tryz.call95 rfl rfl (by repeat (first | exact Part.nil _ | (apply Part.cons; with_reducible (first | exact P0 | exact P1 | exact P2 | exact P3 | exact P4 | exact P5 | exact P6 | exact P7 | exact P8 | exact P9 | exact P10 | exact P11 | exact P12 | exact P13 | exact P14 | exact P15 | exact P16 | exact P17 | exact P18 | exact P19 | exact P20 | exact P21 | exact P22 | exact P23)) | (apply Part.flat; simp only [List.cons_append, List.nil_append]) | (apply Part.cons; (first | exact P0 | exact P1 | exact P2 | exact P3 | exact P4 | exact P5 | exact P6 | exact P7 | exact P8 | exact P9 | exact P10 | exact P11 | exact P12 | exact P13 | exact P14 | exact P15 | exact P16 | exact P17 | exact P18 | exact P19 | exact P20 | exact P21 | exact P22 | exact P23)) | (apply Part.nilc))) ?_)
                            rintro v post H' ⟨rfl, sg1, hM1, rfl⟩ hH
                            try simp only [List.cons_append, List.nil_append] at hH
                            subst hH
                            refine SPL_nil ?_
                            refine thenP_n ?_
                            refine SP_region ?_
                            refine SPL_y (y_move rfl) rfl ?_
                            refine SPL_y (y_fa fld_158_1 rfl) rfl ?_
                            refine SPL_y (y_load Tryz.isAgg3 rfl (by repeat (first | exact Cell.amid hpre rfl | exact Cell.head rfl | apply Cell.tail))) rfl ?_
                            refine SPL_y (y_fa fld_206_3 rfl) rfl ?_
                            refine SPL_y (y_load Tryz.isAgg146 rfl (by repeat (first | exact Cell.amid hpre rfl | exact Cell.head rfl | apply Cell.tail))) rfl ?_
                            refine SPL_one rfl (SP1_call (cm_do x eb hb hP _ hM1) Tryz.call95 rfl rfl (by repeat (first | exact Part.nil _ | (apply Part.cons; with_reducible (first | exact P0 | exact P1 | exact P2 | exact P3 | exact P4 | exact P5 | exact P6 | exact P7 | exact P8 | exact P9 | exact P10 | exact P11 | exact P12 | exact P13 | exact P14 | exact P15 | exact P16 | exact P17 | exact P18 | exact P19 | exact P20 | exact P21 | exact P22 | exact P23)) | (apply Part.flat; simp only [List.cons_append, List.nil_append]) | (apply Part.cons; (first | exact P0 | exact P1 | exact P2 | exact P3 | exact P4 | exact P5 | exact P6 | exact P7 | exact P8 | exact P9 | exact P10 | exact P11 | exact P12 | exact P13 | exact P14 | exact P15 | exact P16 | exact P17 | exact P18 | exact P19 | exact P20 | exact P21 | exact P22 | exact P23)) | (apply Part.nilc))) ?_)
                            rintro v post H' ⟨rfl, sg9, hM9, rfl⟩ hH
                            try simp only [List.cons_append, List.nil_append] at hH
                            subst hH
                            refine SPL_nil ?_
                            refine inBlockP_n ?_
                            refine bodyP_end (H' := [sg9]) (Res0 rfl) (by repeat (first | exact Part.nil _ | (apply Part.cons; with_reducible (first | exact P0 | exact P1 | exact P2 | exact P3 | exact P4 | exact P5 | exact P6 | exact P7 | exact P8 | exact P9 | exact P10 | exact P11 | exact P12 | exact P13 | exact P14 | exact P15 | exact P16 | exact P17 | exact P18 | exact P19 | exact P20 | exact P21 | exact P22 | exact P23)) | (apply Part.flat; simp only [List.cons_append, List.nil_append]) | (apply Part.cons; (first | exact P0 | exact P1 | exact P2 | exact P3 | exact P4 | exact P5 | exact P6 | exact P7 | exact P8 | exact P9 | exact P10 | exact P11 | exact P12 | exact P13 | exact P14 | exact P15 | exact P16 | exact P17 | exact P18 | exact P19 | exact P20 | exact P21 | exact P22 | exact P23)) | (apply Part.nilc))) ?_
                            exact ⟨rfl, eb, hb, _, Gr.refl _ _, hM9, rfl⟩
                        intro h47_0
                        first | rw [if_neg h47_0] at hP | rw [if_pos (Decidable.not_not.1 h47_0)] at hP | skip
                        as_aux_lemma =>
                          refine SPL_y (y_assign rfl) rfl ?_
                          refine SPL_nil ?_
                          refine thenP_n ?_
                          refine SP_cond_f rfl ?_
                          refine SP_seq ?_
                          refine SP_region ?_
                          refine SPL_if (y_eql rfl rfl) rfl ?_ ?_
                          · intro h50_0
                            first | rw [if_pos h50_0] at hP | rw [if_neg h50_0] at hP | skip
                            as_aux_lemma =>
                              refine SPL_y (y_assign rfl) rfl ?_
                              refine SPL_nil ?_
                              refine thenP_n ?_
                              refine SP_cond_t rfl ?_
                              refine SP_seq ?_
                              refine SP_region ?_
                              refine SPL_y (y_move rfl) rfl ?_
                              obtain ⟨v1, m1, hq1, hP⟩ := bnd2 hP
                              refine SPL_one rfl (SP1_call (cm_pop x eb hb hq1 _ hM0) Tryz.call99 rfl rfl (by repeat (first | exact Part.nil _ | (apply Part.cons; with_reducible (first | exact P0 | exact P1 | exact P2 | exact P3 | exact P4 | exact P5 | exact P6 | exact P7 | exact P8 | exact P9 | exact P10 | exact P11 | exact P12 | exact P13 | exact P14 | exact P15 | exact P16 | exact P17 | exact P18 | exact P19 | exact P20 | exact P21 | exact P22 | exact P23)) | (apply Part.flat; simp only [List.cons_append, List.nil_append]) | (apply Part.cons; (first | exact P0 | exact P1 | exact P2 | exact P3 | exact P4 | exact P5 | exact P6 | exact P7 | exact P8 | exact P9 | exact P10 | exact P11 | exact P12 | exact P13 | exact P14 | exact P15 | exact P16 | exact P17 | exact P18 | exact P19 | exact P20 | exact P21 | exact P22 | exact P23)) | (apply Part.nilc))) ?_)
                              rintro v post H' ⟨rfl, sg1, hM1, rfl⟩ hH
                              try simp only [List.cons_append, List.nil_append] at hH
                              subst hH
                              refine SPL_one rfl (SP1_alloc Tryz.zeroValue42 rfl rfl ?_)
                              intro b17
                              refine SPL_one rfl (SP1_storeAll Tryz.sizeOf42 rfl rfl rfl rfl rfl (by first | exact U0 | exact U1 | exact U2 | exact U3 | exact U4 | exact U5 | exact U6 | exact U7 | exact U8 | exact U9 | exact U10 | exact U11 | exact U12 | exact U13 | exact U14 | exact U15 | exact U16 | exact U17 | exact U18 | exact U19 | exact U20 | exact U21 | exact U22 | exact U23) (by rfl) ?_)
                              refine SPL_nil ?_
                              refine thenP_n ?_
                              refine SP_seq ?_
                              refine SP_region ?_
                              refine SPL_y (y_loads Tryz.isAgg42 Tryz.sizeOf42 rfl rfl (by repeat (first | exact Cells.all _ | exact Cells.amid hpre rfl (by decide) | exact Cells.head rfl | apply Cells.tail))) rfl ?_
                              refine SPL_one rfl (SP1_call (api_Truthy v1) Tryz.call102 rfl rfl (by repeat (first | exact Part.nil _ | (apply Part.cons; with_reducible (first | exact P0 | exact P1 | exact P2 | exact P3 | exact P4 | exact P5 | exact P6 | exact P7 | exact P8 | exact P9 | exact P10 | exact P11 | exact P12 | exact P13 | exact P14 | exact P15 | exact P16 | exact P17 | exact P18 | exact P19 | exact P20 | exact P21 | exact P22 | exact P23)) | (apply Part.flat; simp only [List.cons_append, List.nil_append]) | (apply Part.cons; (first | exact P0 | exact P1 | exact P2 | exact P3 | exact P4 | exact P5 | exact P6 | exact P7 | exact P8 | exact P9 | exact P10 | exact P11 | exact P12 | exact P13 | exact P14 | exact P15 | exact P16 | exact P17 | exact P18 | exact P19 | exact P20 | exact P21 | exact P22 | exact P23)) | (apply Part.nilc))) ?_)
                              rintro v post H' ⟨rfl, rfl⟩ hH
                              try simp only [List.cons_append, List.nil_append] at hH
                              subst hH
                              generalize htr : truthy v1 = tr at hP
                              rcases tr with _ | _
                              · try dsimp only [cond_true, cond_false, Bool.true_or, Bool.false_or] at hP
                                refine SPL_nil ?_
                                refine thenP_n ?_
                                refine SP_cond_f rfl ?_
                                refine SP_skip ?_
                                refine inBlockP_n ?_
                                refine bodyP_end (H' := [sg1]) (Res0 rfl) (by repeat (first | exact Part.nil _ | (apply Part.cons; with_reducible (first | exact P0 | exact P1 | exact P2 | exact P3 | exact P4 | exact P5 | exact P6 | exact P7 | exact P8 | exact P9 | exact P10 | exact P11 | exact P12 | exact P13 | exact P14 | exact P15 | exact P16 | exact P17 | exact P18 | exact P19 | exact P20 | exact P21 | exact P22 | exact P23)) | (apply Part.flat; simp only [List.cons_append, List.nil_append]) | (apply Part.cons; (first | exact P0 | exact P1 | exact P2 | exact P3 | exact P4 | exact P5 | exact P6 | exact P7 | exact P8 | exact P9 | exact P10 | exact P11 | exact P12 | exact P13 | exact P14 | exact P15 | exact P16 | exact P17 | exact P18 | exact P19 | exact P20 | exact P21 | exact P22 | exact P23)) | (apply Part.nilc))) ?_
                                rw [if_neg (by decide)] at hP
                                injection hP with hP
                                subst hP
                                exact ⟨rfl, eb, hb, _, Gr.refl _ _, hM1, rfl⟩
                              · try dsimp only [cond_true, cond_false, Bool.true_or, Bool.false_or] at hP
                                refine SPL_nil ?_
                                refine thenP_n ?_
                                refine SP_cond_t rfl ?_
                                refine SP_seq ?_
                                rw [if_pos rfl] at hP
                                refine SP_region ?_
                                refine SPL_y (y_move rfl) rfl ?_
                                refine SPL_y (y_fa fld_206_1 rfl) rfl ?_
                                refine SPL_y (y_load Tryz.isAgg3 rfl (by repeat (first | exact Cell.amid hpre rfl | exact Cell.head rfl | apply Cell.tail))) rfl ?_
                                refine SPL_y (y_fa fld_206_3 rfl) rfl ?_
                                refine SPL_y (y_load Tryz.isAgg146 rfl (by repeat (first | exact Cell.amid hpre rfl | exact Cell.head rfl | apply Cell.tail))) rfl ?_
                                obtain ⟨m2, hq2, hP⟩ := bnd1 hP
                                refine SPL_one rfl (SP1_call (cm_do x eb hb hq2 _ hM1) Tryz.call95 rfl rfl (by repeat (first | exact Part.nil _ | (apply Part.cons; with_reducible (first | exact P0 | exact P1 | exact P2 | exact P3 | exact P4 | exact P5 | exact P6 | exact P7 | exact P8 | exact P9 | exact P10 | exact P11 | exact P12 | exact P13 | exact P14 | exact P15 | exact P16 | exact P17 | exact P18 | exact P19 | exact P20 | exact P21 | exact P22 | exact P23)) | (apply Part.flat; simp only [List.cons_append, List.nil_append]) | (apply Part.cons; (first | exact P0 | exact P1 | exact P2 | exact P3 | exact P4 | exact P5 | exact P6 | exact P7 | exact P8 | exact P9 | exact P10 | exact P11 | exact P12 | exact P13 | exact P14 | exact P15 | exact P16 | exact P17 | exact P18 | exact P19 | exact P20 | exact P21 | exact P22 | exact P23)) | (apply Part.nilc))) ?_)
                                rintro v post H' ⟨rfl, sg2, hM2, rfl⟩ hH
                                try simp only [List.cons_append, List.nil_append] at hH
                                subst hH
                                refine SPL_nil ?_
                                refine thenP_n ?_
                                refine SP_region ?_
                                refine SPL_y (y_move rfl) rfl ?_
                                refine SPL_y (y_fa fld_158_2 rfl) rfl ?_
                                refine SPL_y (y_load Tryz.isAgg3 rfl (by repeat (first | exact Cell.amid hpre rfl | exact Cell.head rfl | apply Cell.tail))) rfl ?_
                                refine SPL_y (y_fa fld_206_3 rfl) rfl ?_
                                refine SPL_y (y_load Tryz.isAgg146 rfl (by repeat (first | exact Cell.amid hpre rfl | exact Cell.head rfl | apply Cell.tail))) rfl ?_
                                refine SPL_one rfl (SP1_call (cm_do x eb hb hP _ hM2) Tryz.call95 rfl rfl (by repeat (first | exact Part.nil _ | (apply Part.cons; with_reducible (first | exact P0 | exact P1 | exact P2 | exact P3 | exact P4 | exact P5 | exact P6 | exact P7 | exact P8 | exact P9 | exact P10 | exact P11 | exact P12 | exact P13 | exact P14 | exact P15 | exact P16 | exact P17 | exact P18 | exact P19 | exact P20 | exact P21 | exact P22 | exact P23)) | (apply Part.flat; simp only [List.cons_append, List.nil_append]) | (apply Part.cons; (first | exact P0 | exact P1 | exact P2 | exact P3 | exact P4 | exact P5 | exact P6 | exact P7 | exact P8 | exact P9 | exact P10 | exact P11 | exact P12 | exact P13 | exact P14 | exact P15 | exact P16 | exact P17 | exact P18 | exact P19 | exact P20 | exact P21 | exact P22 | exact P23)) | (apply Part.nilc))) ?_)
                                rintro v post H' ⟨rfl, sg9, hM9, rfl⟩ hH
                                try simp only [List.cons_append, List.nil_append] at hH
                                subst hH
                                refine SPL_nil ?_
                                refine inBlockP_n ?_
                                refine bodyP_end (H' := [sg9]) (Res0 rfl) (by repeat (first | exact Part.nil _ | (apply Part.cons; with_reducible (first | exact P0 | exact P1 | exact P2 | exact P3 | exact P4 | exact P5 | exact P6 | exact P7 | exact P8 | exact P9 | exact P10 | exact P11 | exact P12 | exact P13 | exact P14 | exact P15 | exact P16 | exact P17 | exact P18 | exact P19 | exact P20 | exact P21 | exact P22 | exact P23)) | (apply Part.flat; simp only [List.cons_append, List.nil_append]) | (apply Part.cons; (first | exact P0 | exact P1 | exact P2 | exact P3 | exact P4 | exact P5 | exact P6 | exact P7 | exact P8 | exact P9 | exact P10 | exact P11 | exact P12 | exact P13 | exact P14 | exact P15 | exact P16 | exact P17 | exact P18 | exact P19 | exact P20 | exact P21 | exact P22 | exact P23)) | (apply Part.nilc))) ?_
                                exact ⟨rfl, eb, hb, _, Gr.refl _ _, hM9, rfl⟩
                          intro h50_0
                          first | rw [if_neg h50_0] at hP | rw [if_pos (Decidable.not_not.1 h50_0)] at hP | skip
                          as_aux_lemma =>
                            refine SPL_y (y_assign rfl) rfl ?_
                            refine SPL_nil ?_
                            refine thenP_n ?_
                            refine SP_cond_f rfl ?_
                            refine SP_seq ?_
                            refine SP_region ?_
                            refine SPL_if (y_eql rfl rfl) rfl ?_ ?_
                            · intro h55_0
                              first | rw [if_pos h55_0] at hP | rw [if_neg h55_0] at hP | skip
                              as_aux_lemma =>
                                refine SPL_y (y_assign rfl) rfl ?_
                                refine SPL_nil ?_
                                refine thenP_n ?_
                                refine SP_cond_t rfl ?_
                                refine SP_seq ?_
                                refine SP_region ?_
                                refine SPL_y (y_move rfl) rfl ?_
                                unfold kBack at hP
                                obtain ⟨ok, m1, hq1, hP⟩ := bnd2 hP
                                refine SPL_one rfl (SP1_call (cm_burn x eb hb hq1 _ hM0) Tryz.call103 rfl rfl (by repeat (first | exact Part.nil _ | (apply Part.cons; with_reducible (first | exact P0 | exact P1 | exact P2 | exact P3 | exact P4 | exact P5 | exact P6 | exact P7 | exact P8 | exact P9 | exact P10 | exact P11 | exact P12 | exact P13 | exact P14 | exact P15 | exact P16 | exact P17 | exact P18 | exact P19 | exact P20 | exact P21 | exact P22 | exact P23)) | (apply Part.flat; simp only [List.cons_append, List.nil_append]) | (apply Part.cons; (first | exact P0 | exact P1 | exact P2 | exact P3 | exact P4 | exact P5 | exact P6 | exact P7 | exact P8 | exact P9 | exact P10 | exact P11 | exact P12 | exact P13 | exact P14 | exact P15 | exact P16 | exact P17 | exact P18 | exact P19 | exact P20 | exact P21 | exact P22 | exact P23)) | (apply Part.nilc))) ?_)
                                rintro v post H' ⟨rfl, sg1, hM1, rfl⟩ hH
                                rcases ok with _ | _
                                · try simp only [List.cons_append, List.nil_append] at hH
                                  subst hH
                                  try dsimp only [cond_true, cond_false, Bool.true_or, Bool.false_or] at hP
                                  refine SPL_nil ?_
                                  refine thenP_n ?_
                                  refine SP_cond_f rfl ?_
                                  refine SP_skip ?_
                                  refine inBlockP_n ?_
                                  refine bodyP_end (H' := [sg1]) (Res0 rfl) (by repeat (first | exact Part.nil _ | (apply Part.cons; with_reducible (first | exact P0 | exact P1 | exact P2 | exact P3 | exact P4 | exact P5 | exact P6 | exact P7 | exact P8 | exact P9 | exact P10 | exact P11 | exact P12 | exact P13 | exact P14 | exact P15 | exact P16 | exact P17 | exact P18 | exact P19 | exact P20 | exact P21 | exact P22 | exact P23)) | (apply Part.flat; simp only [List.cons_append, List.nil_append]) | (apply Part.cons; (first | exact P0 | exact P1 | exact P2 | exact P3 | exact P4 | exact P5 | exact P6 | exact P7 | exact P8 | exact P9 | exact P10 | exact P11 | exact P12 | exact P13 | exact P14 | exact P15 | exact P16 | exact P17 | exact P18 | exact P19 | exact P20 | exact P21 | exact P22 | exact P23)) | (apply Part.nilc))) ?_
                                  rw [if_neg (by decide)] at hP
                                  injection hP with hP
                                  subst hP
                                  exact ⟨rfl, eb, hb, _, Gr.refl _ _, hM1, rfl⟩
                                · try simp only [List.cons_append, List.nil_append] at hH
                                  subst hH
                                  try dsimp only [cond_true, cond_false, Bool.true_or, Bool.false_or] at hP
                                  refine SPL_nil ?_
                                  refine thenP_n ?_
                                  refine SP_cond_t rfl ?_
                                  rw [if_pos rfl] at hP
                                  refine SP_region ?_
                                  refine SPL_y (y_move rfl) rfl ?_
                                  refine SPL_y (y_fa fld_206_1 rfl) rfl ?_
                                  refine SPL_y (y_load Tryz.isAgg3 rfl (by repeat (first | exact Cell.amid hpre rfl | exact Cell.head rfl | apply Cell.tail))) rfl ?_
                                  refine SPL_y (y_fa fld_206_3 rfl) rfl ?_
                                  refine SPL_y (y_load Tryz.isAgg146 rfl (by repeat (first | exact Cell.amid hpre rfl | exact Cell.head rfl | apply Cell.tail))) rfl ?_
                                  refine SPL_one rfl (SP1_call (cm_do x eb hb hP _ hM1) Tryz.call95 rfl rfl (by repeat (first | exact Part.nil _ | (apply Part.cons; with_reducible (first | exact P0 | exact P1 | exact P2 | exact P3 | exact P4 | exact P5 | exact P6 | exact P7 | exact P8 | exact P9 | exact P10 | exact P11 | exact P12 | exact P13 | exact P14 | exact P15 | exact P16 | exact P17 | exact P18 | exact P19 | exact P20 | exact P21 | exact P22 | exact P23)) | (apply Part.flat; simp only [List.cons_append, List.nil_append]) | (apply Part.cons; (first | exact P0 | exact P1 | exact P2 | exact P3 | exact P4 | exact P5 | exact P6 | exact P7 | exact P8 | exact P9 | exact P10 | exact P11 | exact P12 | exact P13 | exact P14 | exact P15 | exact P16 | exact P17 | exact P18 | exact P19 | exact P20 | exact P21 | exact P22 | exact P23)) | (apply Part.nilc))) ?_)
                                  rintro v post H' ⟨rfl, sg9, hM9, rfl⟩ hH
                                  try simp only [List.cons_append, List.nil_append] at hH
                                  subst hH
                                  refine SPL_nil ?_
                                  refine inBlockP_n ?_
                                  refine bodyP_end (H' := [sg9]) (Res0 rfl) (by repeat (first | exact Part.nil _ | (apply Part.cons; with_reducible (first | exact P0 | exact P1 | exact P2 | exact P3 | exact P4 | exact P5 | exact P6 | exact P7 | exact P8 | exact P9 | exact P10 | exact P11 | exact P12 | exact P13 | exact P14 | exact P15 | exact P16 | exact P17 | exact P18 | exact P19 | exact P20 | exact P21 | exact P22 | exact P23)) | (apply Part.flat; simp only [List.cons_append, List.nil_append]) | (apply Part.cons; (first | exact P0 | exact P1 | exact P2 | exact P3 | exact P4 | exact P5 | exact P6 | exact P7 | exact P8 | exact P9 | exact P10 | exact P11 | exact P12 | exact P13 | exact P14 | exact P15 | exact P16 | exact P17 | exact P18 | exact P19 | exact P20 | exact P21 | exact P22 | exact P23)) | (apply Part.nilc))) ?_
                                  exact ⟨rfl, eb, hb, _, Gr.refl _ _, hM9, rfl⟩
                            intro h55_0
                            first | rw [if_neg h55_0] at hP | rw [if_pos (Decidable.not_not.1 h55_0)] at hP | skip
                            as_aux_lemma =>
                              refine SPL_y (y_assign rfl) rfl ?_
                              refine SPL_nil ?_
                              refine thenP_n ?_
                              refine SP_cond_f rfl ?_
                              refine SP_seq ?_
                              refine SP_region ?_
                              refine SPL_if (y_eql rfl rfl) rfl ?_ ?_
                              · intro h58_0
                                first | rw [if_pos h58_0] at hP | rw [if_neg h58_0] at hP | skip
                                as_aux_lemma =>
                                  refine SPL_y (y_assign rfl) rfl ?_
                                  refine SPL_nil ?_
                                  refine thenP_n ?_
                                  refine SP_cond_t rfl ?_
                                  refine SP_seq ?_
                                  have hcc := hcc0
                                  have hc := hc0
                                  have hg2 := hg0
                                  unfold k15 at hP
                                  obtain ⟨va, hvva, hP⟩ := bnd1 hP
                                  obtain ⟨⟨_, hvkva, hvlva⟩, hiva, hxva⟩ := vTop_some hvva hcc hc
                                  obtain ⟨vb, hvvb, hP⟩ := bnd1 hP
                                  obtain ⟨⟨_, hvkvb, hvlvb⟩, hivb, hxvb⟩ := vTop_some hvvb hcc hc
                                  obtain ⟨ve, hvve, hP⟩ := bnd1 hP
                                  obtain ⟨⟨_, hvkve, hvlve⟩, hive, hxve⟩ := vTop_some hvve hcc hc
                                  obtain ⟨vk, vc, hVs, hVc⟩ := hM0.tops hc (by omega)
                                  have hCva : ∀ H : Hp, Cells (sg0 :: H) vk (0 + ((m0.ths[c].vals.length - 3 : Nat) : Int).toNat * 3) (valV va) := fun H => by have := hVc _ hiva H; rwa [hxva] at this
                                  have hTva : ∀ H : Hp, Cell (sg0 :: H) vk (0 + ((m0.ths[c].vals.length - 3 : Nat) : Int).toNat * 3 + 0) (I va.t) := fun H => (hCva H).cell (j := 0) rfl
                                  have hCvb : ∀ H : Hp, Cells (sg0 :: H) vk (0 + ((m0.ths[c].vals.length - 2 : Nat) : Int).toNat * 3) (valV vb) := fun H => by have := hVc _ hivb H; rwa [hxvb] at this
                                  have hTvb : ∀ H : Hp, Cell (sg0 :: H) vk (0 + ((m0.ths[c].vals.length - 2 : Nat) : Int).toNat * 3 + 0) (I vb.t) := fun H => (hCvb H).cell (j := 0) rfl
                                  have hCve : ∀ H : Hp, Cells (sg0 :: H) vk (0 + ((m0.ths[c].vals.length - 1 : Nat) : Int).toNat * 3) (valV ve) := fun H => by have := hVc _ hive H; rwa [hxve] at this
                                  have hTve : ∀ H : Hp, Cell (sg0 :: H) vk (0 + ((m0.ths[c].vals.length - 1 : Nat) : Int).toNat * 3 + 0) (I ve.t) := fun H => (hCve H).cell (j := 0) rfl
                                  refine SP_region ?_
                                  refine SPL_y (y_move rfl) rfl ?_
                                  refine SPL_y (y_nil rfl) rfl ?_
                                  refine SPL_y (y_fa fld_152_4 rfl) rfl ?_
                                  refine SPL_y (y_load Tryz.isAgg90 rfl (by repeat (first | exact hVs _ | apply Cell.tail))) rfl ?_
                                  refine SPL_y (y_len_l Tryz.underlying90 rfl) rfl ?_
                                  refine SPL_y (y_assign rfl) rfl ?_
                                  refine SPL_nil ?_
                                  refine thenP_n ?_
                                  refine SP_seq ?_
                                  refine SP_seq ?_
                                  refine SP_region ?_
                                  refine SPL_y (y_move rfl) rfl ?_
                                  refine SPL_y (y_nil rfl) rfl ?_
                                  refine SPL_y (y_fa fld_152_4 rfl) rfl ?_
                                  refine SPL_y (y_load Tryz.isAgg90 rfl (by repeat (first | exact hVs _ | apply Cell.tail))) rfl ?_
                                  refine SPL_y (y_move rfl) rfl ?_
                                  refine SPL_y (y_sub rfl rfl (by omega)) rfl ?_
                                  rw [show ((m0.ths[c].vals.length : Nat) : Int) - 3 = ((m0.ths[c].vals.length - 3 : Nat) : Int) by omega]
                                  refine SPL_y (y_ia Tryz.underlying90 Tryz.sizeOf42 rfl rfl (by omega)) rfl ?_
                                  refine SPL_y (y_fa fld_42_0 rfl) rfl ?_
                                  refine SPL_y (y_load Tryz.isAgg3 rfl (by repeat (first | exact hTva _ | apply Cell.tail))) rfl ?_
                                  refine SPL_if (y_neq rfl rfl) rfl ?_ ?_
                                  · intro h60_9
                                    first | rw [if_pos h60_9] at hP | rw [if_neg h60_9] at hP | skip
                                    as_aux_lemma =>
                                      refine SPL_y (y_move rfl) rfl ?_
                                      refine SPL_gn rfl rfl rfl rfl ?_
                                      refine SPL_gn rfl rfl rfl rfl ?_
                                      refine SPL_gn rfl rfl rfl rfl ?_
                                      refine SPL_gn rfl rfl rfl rfl ?_
                                      refine SPL_gn rfl rfl rfl rfl ?_
                                      refine SPL_gn rfl rfl rfl rfl ?_
                                      refine SPL_gn rfl rfl rfl rfl ?_
                                      refine SPL_gn rfl rfl rfl rfl ?_
                                      refine SPL_gn rfl rfl rfl rfl ?_
                                      refine SPL_gn rfl rfl rfl rfl ?_
                                      refine SPL_y (y_pick_t rfl rfl) rfl ?_
                                      refine SPL_y (y_move rfl) rfl ?_
                                      refine SPL_gn rfl rfl rfl rfl ?_
                                      refine SPL_gn rfl rfl rfl rfl ?_
                                      refine SPL_gn rfl rfl rfl rfl ?_
                                      refine SPL_gn rfl rfl rfl rfl ?_
                                      refine SPL_gn rfl rfl rfl rfl ?_
                                      refine SPL_gn rfl rfl rfl rfl ?_
                                      refine SPL_gn rfl rfl rfl rfl ?_
                                      refine SPL_gn rfl rfl rfl rfl ?_
                                      refine SPL_gn rfl rfl rfl rfl ?_
                                      refine SPL_gn rfl rfl rfl rfl ?_
                                      refine SPL_y (y_pick_t rfl rfl) rfl ?_
                                      refine SPL_nil ?_
                                      refine thenP_n ?_
                                      refine SP_cond_t rfl ?_
                                      refine SP_seq ?_
                                      rw [if_pos (Or.inl h60_9)] at hP
                                      refine SP_region ?_
                                      refine SPL_y (y_move rfl) rfl ?_
                                      refine SPL_one rfl (SP1_call (cm_raise x eb hb hP _ hM0) Tryz.call104 rfl rfl (by repeat (first | exact Part.nil _ | (apply Part.cons; with_reducible (first | exact P0 | exact P1 | exact P2 | exact P3 | exact P4 | exact P5 | exact P6 | exact P7 | exact P8 | exact P9 | exact P10 | exact P11 | exact P12 | exact P13 | exact P14 | exact P15 | exact P16 | exact P17 | exact P18 | exact P19 | exact P20 | exact P21 | exact P22 | exact P23)) | (apply Part.flat; simp only [List.cons_append, List.nil_append]) | (apply Part.cons; (first | exact P0 | exact P1 | exact P2 | exact P3 | exact P4 | exact P5 | exact P6 | exact P7 | exact P8 | exact P9 | exact P10 | exact P11 | exact P12 | exact P13 | exact P14 | exact P15 | exact P16 | exact P17 | exact P18 | exact P19 | exact P20 | exact P21 | exact P22 | exact P23)) | (apply Part.nilc))) ?_)
                                      rintro v post H' ⟨rfl, sg9, hM9, rfl⟩ hH
                                      try simp only [List.cons_append, List.nil_append] at hH
                                      subst hH
                                      refine SPL_nil ?_
                                      refine thenP_n ?_
                                      refine SP_ret ?_
                                      refine thenP_ret (inBlockP_ret (bodyP_ret (H' := [sg9]) (Res0 rfl) (by repeat (first | exact Part.nil _ | (apply Part.cons; with_reducible (first | exact P0 | exact P1 | exact P2 | exact P3 | exact P4 | exact P5 | exact P6 | exact P7 | exact P8 | exact P9 | exact P10 | exact P11 | exact P12 | exact P13 | exact P14 | exact P15 | exact P16 | exact P17 | exact P18 | exact P19 | exact P20 | exact P21 | exact P22 | exact P23)) | (apply Part.flat; simp only [List.cons_append, List.nil_append]) | (apply Part.cons; (first | exact P0 | exact P1 | exact P2 | exact P3 | exact P4 | exact P5 | exact P6 | exact P7 | exact P8 | exact P9 | exact P10 | exact P11 | exact P12 | exact P13 | exact P14 | exact P15 | exact P16 | exact P17 | exact P18 | exact P19 | exact P20 | exact P21 | exact P22 | exact P23)) | (apply Part.nilc))) ?_))
                                      exact ⟨rfl, eb, hb, _, Gr.refl _ _, hM9, rfl⟩
                                  intro h60_9
                                  first | rw [if_neg h60_9] at hP | rw [if_pos (Decidable.not_not.1 h60_9)] at hP | skip
                                  as_aux_lemma =>
                                    refine SPL_y (y_move rfl) rfl ?_
                                    refine SPL_gy rfl rfl ?_
                                    refine SPL_y (y_move rfl) rfl ?_
                                    refine SPL_gy rfl rfl ?_
                                    refine SPL_y (y_nil rfl) rfl ?_
                                    refine SPL_gy rfl rfl ?_
                                    refine SPL_y (y_fa fld_152_4 rfl) rfl ?_
                                    refine SPL_gy rfl rfl ?_
                                    refine SPL_y (y_load Tryz.isAgg90 rfl (by repeat (first | exact hVs _ | apply Cell.tail))) rfl ?_
                                    refine SPL_gy rfl rfl ?_
                                    refine SPL_y (y_move rfl) rfl ?_
                                    refine SPL_gy rfl rfl ?_
                                    refine SPL_y (y_sub rfl rfl (by omega)) rfl ?_
                                    rw [show ((m0.ths[c].vals.length : Nat) : Int) - 2 = ((m0.ths[c].vals.length - 2 : Nat) : Int) by omega]
                                    refine SPL_gy rfl rfl ?_
                                    refine SPL_y (y_ia Tryz.underlying90 Tryz.sizeOf42 rfl rfl (by omega)) rfl ?_
                                    refine SPL_gy rfl rfl ?_
                                    refine SPL_y (y_fa fld_42_0 rfl) rfl ?_
                                    refine SPL_gy rfl rfl ?_
                                    refine SPL_y (y_load Tryz.isAgg3 rfl (by repeat (first | exact hTvb _ | apply Cell.tail))) rfl ?_
                                    refine SPL_gy rfl rfl ?_
                                    refine SPL_if (y_neq rfl rfl) rfl ?_ ?_
                                    · intro h60_20
                                      first | rw [if_pos h60_20] at hP | rw [if_neg h60_20] at hP | skip
                                      as_aux_lemma =>
                                        refine SPL_y (y_pick_f rfl rfl) rfl ?_
                                        refine SPL_y (y_move rfl) rfl ?_
                                        refine SPL_gn rfl rfl rfl rfl ?_
                                        refine SPL_gn rfl rfl rfl rfl ?_
                                        refine SPL_gn rfl rfl rfl rfl ?_
                                        refine SPL_gn rfl rfl rfl rfl ?_
                                        refine SPL_gn rfl rfl rfl rfl ?_
                                        refine SPL_gn rfl rfl rfl rfl ?_
                                        refine SPL_gn rfl rfl rfl rfl ?_
                                        refine SPL_gn rfl rfl rfl rfl ?_
                                        refine SPL_gn rfl rfl rfl rfl ?_
                                        refine SPL_gn rfl rfl rfl rfl ?_
                                        refine SPL_y (y_pick_t rfl rfl) rfl ?_
                                        refine SPL_nil ?_
                                        refine thenP_n ?_
                                        refine SP_cond_t rfl ?_
                                        refine SP_seq ?_
                                        rw [if_pos (Or.inr (Or.inl h60_20))] at hP
                                        refine SP_region ?_
                                        refine SPL_y (y_move rfl) rfl ?_
                                        refine SPL_one rfl (SP1_call (cm_raise x eb hb hP _ hM0) Tryz.call104 rfl rfl (by repeat (first | exact Part.nil _ | (apply Part.cons; with_reducible (first | exact P0 | exact P1 | exact P2 | exact P3 | exact P4 | exact P5 | exact P6 | exact P7 | exact P8 | exact P9 | exact P10 | exact P11 | exact P12 | exact P13 | exact P14 | exact P15 | exact P16 | exact P17 | exact P18 | exact P19 | exact P20 | exact P21 | exact P22 | exact P23)) | (apply Part.flat; simp only [List.cons_append, List.nil_append]) | (apply Part.cons; (first | exact P0 | exact P1 | exact P2 | exact P3 | exact P4 | exact P5 | exact P6 | exact P7 | exact P8 | exact P9 | exact P10 | exact P11 | exact P12 | exact P13 | exact P14 | exact P15 | exact P16 | exact P17 | exact P18 | exact P19 | exact P20 | exact P21 | exact P22 | exact P23)) | (apply Part.nilc))) ?_)
                                        rintro v post H' ⟨rfl, sg9, hM9, rfl⟩ hH
                                        try simp only [List.cons_append, List.nil_append] at hH
                                        subst hH
                                        refine SPL_nil ?_
                                        refine thenP_n ?_
                                        refine SP_ret ?_
                                        refine thenP_ret (inBlockP_ret (bodyP_ret (H' := [sg9]) (Res0 rfl) (by repeat (first | exact Part.nil _ | (apply Part.cons; with_reducible (first | exact P0 | exact P1 | exact P2 | exact P3 | exact P4 | exact P5 | exact P6 | exact P7 | exact P8 | exact P9 | exact P10 | exact P11 | exact P12 | exact P13 | exact P14 | exact P15 | exact P16 | exact P17 | exact P18 | exact P19 | exact P20 | exact P21 | exact P22 | exact P23)) | (apply Part.flat; simp only [List.cons_append, List.nil_append]) | (apply Part.cons; (first | exact P0 | exact P1 | exact P2 | exact P3 | exact P4 | exact P5 | exact P6 | exact P7 | exact P8 | exact P9 | exact P10 | exact P11 | exact P12 | exact P13 | exact P14 | exact P15 | exact P16 | exact P17 | exact P18 | exact P19 | exact P20 | exact P21 | exact P22 | exact P23)) | (apply Part.nilc))) ?_))
                                        exact ⟨rfl, eb, hb, _, Gr.refl _ _, hM9, rfl⟩
                                    intro h60_20
                                    first | rw [if_neg h60_20] at hP | rw [if_pos (Decidable.not_not.1 h60_20)] at hP | skip
                                    as_aux_lemma =>
                                      refine SPL_y (y_pick_f rfl rfl) rfl ?_
                                      refine SPL_y (y_move rfl) rfl ?_
                                      refine SPL_gy rfl rfl ?_
                                      refine SPL_y (y_move rfl) rfl ?_
                                      refine SPL_gy rfl rfl ?_
                                      refine SPL_y (y_nil rfl) rfl ?_
                                      refine SPL_gy rfl rfl ?_
                                      refine SPL_y (y_fa fld_152_4 rfl) rfl ?_
                                      refine SPL_gy rfl rfl ?_
                                      refine SPL_y (y_load Tryz.isAgg90 rfl (by repeat (first | exact hVs _ | apply Cell.tail))) rfl ?_
                                      refine SPL_gy rfl rfl ?_
                                      refine SPL_y (y_move rfl) rfl ?_
                                      refine SPL_gy rfl rfl ?_
                                      refine SPL_y (y_sub rfl rfl (by omega)) rfl ?_
                                      rw [show ((m0.ths[c].vals.length : Nat) : Int) - 1 = ((m0.ths[c].vals.length - 1 : Nat) : Int) by omega]
                                      refine SPL_gy rfl rfl ?_
                                      refine SPL_y (y_ia Tryz.underlying90 Tryz.sizeOf42 rfl rfl (by omega)) rfl ?_
                                      refine SPL_gy rfl rfl ?_
                                      refine SPL_y (y_fa fld_42_0 rfl) rfl ?_
                                      refine SPL_gy rfl rfl ?_
                                      refine SPL_y (y_load Tryz.isAgg3 rfl (by repeat (first | exact hTve _ | apply Cell.tail))) rfl ?_
                                      refine SPL_gy rfl rfl ?_
                                      refine SPL_if (y_neq rfl rfl) rfl ?_ ?_
                                      · intro h60_32
                                        first | rw [if_pos h60_32] at hP | rw [if_neg h60_32] at hP | skip
                                        as_aux_lemma =>
                                          refine SPL_y (y_pick_f rfl rfl) rfl ?_
                                          refine SPL_nil ?_
                                          refine thenP_n ?_
                                          refine SP_cond_t rfl ?_
                                          refine SP_seq ?_
                                          rw [if_pos (Or.inr (Or.inr h60_32))] at hP
                                          refine SP_region ?_
                                          refine SPL_y (y_move rfl) rfl ?_
                                          refine SPL_one rfl (SP1_call (cm_raise x eb hb hP _ hM0) Tryz.call104 rfl rfl (by repeat (first | exact Part.nil _ | (apply Part.cons; with_reducible (first | exact P0 | exact P1 | exact P2 | exact P3 | exact P4 | exact P5 | exact P6 | exact P7 | exact P8 | exact P9 | exact P10 | exact P11 | exact P12 | exact P13 | exact P14 | exact P15 | exact P16 | exact P17 | exact P18 | exact P19 | exact P20 | exact P21 | exact P22 | exact P23)) | (apply Part.flat; simp only [List.cons_append, List.nil_append]) | (apply Part.cons; (first | exact P0 | exact P1 | exact P2 | exact P3 | exact P4 | exact P5 | exact P6 | exact P7 | exact P8 | exact P9 | exact P10 | exact P11 | exact P12 | exact P13 | exact P14 | exact P15 | exact P16 | exact P17 | exact P18 | exact P19 | exact P20 | exact P21 | exact P22 | exact P23)) | (apply Part.nilc))) ?_)
                                          rintro v post H' ⟨rfl, sg9, hM9, rfl⟩ hH
                                          try simp only [List.cons_append, List.nil_append] at hH
                                          subst hH
                                          refine SPL_nil ?_
                                          refine thenP_n ?_
                                          refine SP_ret ?_
                                          refine thenP_ret (inBlockP_ret (bodyP_ret (H' := [sg9]) (Res0 rfl) (by repeat (first | exact Part.nil _ | (apply Part.cons; with_reducible (first | exact P0 | exact P1 | exact P2 | exact P3 | exact P4 | exact P5 | exact P6 | exact P7 | exact P8 | exact P9 | exact P10 | exact P11 | exact P12 | exact P13 | exact P14 | exact P15 | exact P16 | exact P17 | exact P18 | exact P19 | exact P20 | exact P21 | exact P22 | exact P23)) | (apply Part.flat; simp only [List.cons_append, List.nil_append]) | (apply Part.cons; (first | exact P0 | exact P1 | exact P2 | exact P3 | exact P4 | exact P5 | exact P6 | exact P7 | exact P8 | exact P9 | exact P10 | exact P11 | exact P12 | exact P13 | exact P14 | exact P15 | exact P16 | exact P17 | exact P18 | exact P19 | exact P20 | exact P21 | exact P22 | exact P23)) | (apply Part.nilc))) ?_))
                                          exact ⟨rfl, eb, hb, _, Gr.refl _ _, hM9, rfl⟩
                                      intro h60_32
                                      first | rw [if_neg h60_32] at hP | rw [if_pos (Decidable.not_not.1 h60_32)] at hP | skip
                                      as_aux_lemma =>
                                        refine SPL_y (y_pick_f rfl rfl) rfl ?_
                                        refine SPL_nil ?_
                                        refine thenP_n ?_
                                        refine SP_cond_f rfl ?_
                                        refine SP_skip ?_
                                        refine thenP_n ?_
                                        refine SP_seq ?_
                                        rw [if_neg (fun z => z.elim h60_9 fun z => z.elim h60_20 h60_32)] at hP
                                        have hrve : numR ve = true := Decidable.byContradiction fun z => by rw [if_neg z] at hP; cases hP
                                        rw [if_pos hrve] at hP
                                        obtain ⟨vek, hvek, hvel⟩ := numR_k hrve
                                        have hNve : ∀ H : Hp, Cell (sg0 :: H) vk (0 + ((m0.ths[c].vals.length - 1 : Nat) : Int).toNat * 3 + 1) (.int .u64 (vek : Int)) := fun H => by have := (hCve H).cell (j := 1) (v := .int .u64 ve.n) rfl; rwa [hvek] at this
                                        rw [hvek, Int.toNat_natCast] at hP
                                        refine SP_draw 13 [(0, 0), (1, 0), (2, 0), (4, 0), (5, 0), (6, 0), (8, 0), (9, 0), (3, 1), (7, 1), (10, 0), (11, 0), (12, 1), (13, 3), (14, 0)] mixed (by kernel_rfl) (fun _ _ _ _ _ h => h) (Part.refl _) ?_
                                        refine SPO_p rfl (y_move rfl) rfl ?_
                                        refine SPO_p rfl (y_nil rfl) rfl ?_
                                        refine SPO_p rfl (y_fa fld_142_0 rfl) rfl ?_
                                        refine SPO_p rfl (y_move rfl) rfl ?_
                                        refine SPO_p rfl (y_nil rfl) rfl ?_
                                        refine SPO_p rfl (y_fa fld_152_4 rfl) rfl ?_
                                        refine SPO_p rfl (y_move rfl) rfl ?_
                                        refine SPO_p rfl (y_sub rfl rfl (by omega)) rfl ?_
                                        rw [show ((m0.ths[c].vals.length : Nat) : Int) - 1 = ((m0.ths[c].vals.length - 1 : Nat) : Int) by omega]
                                        refine SPO_h rfl (y_load Tryz.isAgg78 rfl (by repeat (first | exact hM0.cNum _ | apply Cell.tail))) rfl ?_
                                        refine SPO_h rfl (y_load Tryz.isAgg90 rfl (by repeat (first | exact hVs _ | apply Cell.tail))) rfl ?_
                                        refine SPO_p rfl (y_ia Tryz.underlying90 Tryz.sizeOf42 rfl rfl (by omega)) rfl ?_
                                        refine SPO_p rfl (y_fa fld_42_1 rfl) rfl ?_
                                        refine SPO_h rfl (y_load Tryz.isAgg40 rfl (by repeat (first | exact hNve _ | apply Cell.tail))) rfl ?_
                                        refine SPO_z (k := 0) rfl rfl (SP1_call (nm_Cmp _ 5 vek 0 hvel (by decide)) Tryz.call105 rfl rfl (by repeat (first | exact Part.nil _ | (apply Part.cons; with_reducible (first | exact P0 | exact P1 | exact P2 | exact P3 | exact P4 | exact P5 | exact P6 | exact P7 | exact P8 | exact P9 | exact P10 | exact P11 | exact P12 | exact P13 | exact P14 | exact P15 | exact P16 | exact P17 | exact P18 | exact P19 | exact P20 | exact P21 | exact P22 | exact P23)) | (apply Part.flat; simp only [List.cons_append, List.nil_append]) | (apply Part.cons; (first | exact P0 | exact P1 | exact P2 | exact P3 | exact P4 | exact P5 | exact P6 | exact P7 | exact P8 | exact P9 | exact P10 | exact P11 | exact P12 | exact P13 | exact P14 | exact P15 | exact P16 | exact P17 | exact P18 | exact P19 | exact P20 | exact P21 | exact P22 | exact P23)) | (apply Part.nilc))) ?_)
                                        rintro v post H' ⟨rfl, rfl⟩ hH
                                        try simp only [List.cons_append, List.nil_append] at hH
                                        subst hH
                                        generalize hup1 : cmpM 5 vek 0 = up1 at hP
                                        rcases up1 with _ | _
                                        · try dsimp only [cond_true, cond_false, Bool.true_or, Bool.false_or] at hP
                                          refine SPO_p rfl (y_assign rfl) rfl ?_
                                          refine SPO_nil ?_
                                          refine thenP_n ?_
                                          refine SP_seq ?_
                                          refine SP_draw 13 [(0, 0), (1, 0), (2, 0), (4, 0), (5, 0), (6, 0), (8, 0), (9, 0), (3, 1), (7, 1), (10, 0), (11, 0), (12, 1), (13, 3), (14, 0)] mixed (by kernel_rfl) (fun _ _ _ _ _ h => h) (Part.refl _) ?_
                                          refine SPO_p rfl (y_move rfl) rfl ?_
                                          refine SPO_p rfl (y_nil rfl) rfl ?_
                                          refine SPO_p rfl (y_fa fld_142_0 rfl) rfl ?_
                                          refine SPO_p rfl (y_move rfl) rfl ?_
                                          refine SPO_p rfl (y_nil rfl) rfl ?_
                                          refine SPO_p rfl (y_fa fld_152_4 rfl) rfl ?_
                                          refine SPO_p rfl (y_move rfl) rfl ?_
                                          refine SPO_p rfl (y_sub rfl rfl (by omega)) rfl ?_
                                          rw [show ((m0.ths[c].vals.length : Nat) : Int) - 1 = ((m0.ths[c].vals.length - 1 : Nat) : Int) by omega]
                                          refine SPO_h rfl (y_load Tryz.isAgg78 rfl (by repeat (first | exact hM0.cNum _ | apply Cell.tail))) rfl ?_
                                          refine SPO_h rfl (y_load Tryz.isAgg90 rfl (by repeat (first | exact hVs _ | apply Cell.tail))) rfl ?_
                                          refine SPO_p rfl (y_ia Tryz.underlying90 Tryz.sizeOf42 rfl rfl (by omega)) rfl ?_
                                          refine SPO_p rfl (y_fa fld_42_1 rfl) rfl ?_
                                          refine SPO_h rfl (y_load Tryz.isAgg40 rfl (by repeat (first | exact hNve _ | apply Cell.tail))) rfl ?_
                                          refine SPO_z (k := 0) rfl rfl (SP1_call (nm_Cmp _ 3 vek 0 hvel (by decide)) Tryz.call105 rfl rfl (by repeat (first | exact Part.nil _ | (apply Part.cons; with_reducible (first | exact P0 | exact P1 | exact P2 | exact P3 | exact P4 | exact P5 | exact P6 | exact P7 | exact P8 | exact P9 | exact P10 | exact P11 | exact P12 | exact P13 | exact P14 | exact P15 | exact P16 | exact P17 | exact P18 | exact P19 | exact P20 | exact P21 | exact P22 | exact P23)) | (apply Part.flat; simp only [List.cons_append, List.nil_append]) | (apply Part.cons; (first | exact P0 | exact P1 | exact P2 | exact P3 | exact P4 | exact P5 | exact P6 | exact P7 | exact P8 | exact P9 | exact P10 | exact P11 | exact P12 | exact P13 | exact P14 | exact P15 | exact P16 | exact P17 | exact P18 | exact P19 | exact P20 | exact P21 | exact P22 | exact P23)) | (apply Part.nilc))) ?_)
                                          rintro v post H' ⟨rfl, rfl⟩ hH
                                          try simp only [List.cons_append, List.nil_append] at hH
                                          subst hH
                                          generalize hdn1 : cmpM 3 vek 0 = dn1 at hP
                                          rcases dn1 with _ | _
                                          · try dsimp only [cond_true, cond_false, Bool.true_or, Bool.false_or] at hP
                                            refine SPO_p rfl (y_assign rfl) rfl ?_
                                            refine SPO_nil ?_
                                            refine thenP_n ?_
                                            refine SP_seq ?_
                                            refine SP_seq ?_
                                            refine SP_region ?_
                                            refine SPL_y (y_move rfl) rfl ?_
                                            refine SPL_y (y_not_f rfl) rfl ?_
                                            refine SPL_y (y_move rfl) rfl ?_
                                            refine SPL_gy rfl rfl ?_
                                            refine SPL_y (y_move rfl) rfl ?_
                                            refine SPL_gy rfl rfl ?_
                                            refine SPL_y (y_not_f rfl) rfl ?_
                                            refine SPL_y (y_pick_t rfl rfl) rfl ?_
                                            refine SPL_nil ?_
                                            refine thenP_n ?_
                                            refine SP_cond_t rfl ?_
                                            refine SP_seq ?_
                                            rw [if_pos ⟨rfl, rfl⟩] at hP
                                            refine SP_region ?_
                                            refine SPL_y (y_move rfl) rfl ?_
                                            refine SPL_one rfl (SP1_call (cm_raise x eb hb hP _ hM0) Tryz.call104 rfl rfl (by repeat (first | exact Part.nil _ | (apply Part.cons; with_reducible (first | exact P0 | exact P1 | exact P2 | exact P3 | exact P4 | exact P5 | exact P6 | exact P7 | exact P8 | exact P9 | exact P10 | exact P11 | exact P12 | exact P13 | exact P14 | exact P15 | exact P16 | exact P17 | exact P18 | exact P19 | exact P20 | exact P21 | exact P22 | exact P23)) | (apply Part.flat; simp only [List.cons_append, List.nil_append]) | (apply Part.cons; (first | exact P0 | exact P1 | exact P2 | exact P3 | exact P4 | exact P5 | exact P6 | exact P7 | exact P8 | exact P9 | exact P10 | exact P11 | exact P12 | exact P13 | exact P14 | exact P15 | exact P16 | exact P17 | exact P18 | exact P19 | exact P20 | exact P21 | exact P22 | exact P23)) | (apply Part.nilc))) ?_)
                                            rintro v post H' ⟨rfl, sg9, hM9, rfl⟩ hH
                                            try simp only [List.cons_append, List.nil_append] at hH
                                            subst hH
                                            refine SPL_nil ?_
                                            refine thenP_n ?_
                                            refine SP_ret ?_
                                            refine thenP_ret (inBlockP_ret (bodyP_ret (H' := [sg9]) (Res0 rfl) (by repeat (first | exact Part.nil _ | (apply Part.cons; with_reducible (first | exact P0 | exact P1 | exact P2 | exact P3 | exact P4 | exact P5 | exact P6 | exact P7 | exact P8 | exact P9 | exact P10 | exact P11 | exact P12 | exact P13 | exact P14 | exact P15 | exact P16 | exact P17 | exact P18 | exact P19 | exact P20 | exact P21 | exact P22 | exact P23)) | (apply Part.flat; simp only [List.cons_append, List.nil_append]) | (apply Part.cons; (first | exact P0 | exact P1 | exact P2 | exact P3 | exact P4 | exact P5 | exact P6 | exact P7 | exact P8 | exact P9 | exact P10 | exact P11 | exact P12 | exact P13 | exact P14 | exact P15 | exact P16 | exact P17 | exact P18 | exact P19 | exact P20 | exact P21 | exact P22 | exact P23)) | (apply Part.nilc))) ?_))
                                            exact ⟨rfl, eb, hb, _, Gr.refl _ _, hM9, rfl⟩
                                          · try dsimp only [cond_true, cond_false, Bool.true_or, Bool.false_or] at hP
                                            refine SPO_p rfl (y_assign rfl) rfl ?_
                                            refine SPO_nil ?_
                                            refine thenP_n ?_
                                            refine SP_seq ?_
                                            refine SP_seq ?_
                                            refine SP_region ?_
                                            refine SPL_y (y_move rfl) rfl ?_
                                            refine SPL_y (y_not_f rfl) rfl ?_
                                            refine SPL_y (y_move rfl) rfl ?_
                                            refine SPL_gy rfl rfl ?_
                                            refine SPL_y (y_move rfl) rfl ?_
                                            refine SPL_gy rfl rfl ?_
                                            refine SPL_y (y_not_t rfl) rfl ?_
                                            refine SPL_y (y_pick_t rfl rfl) rfl ?_
                                            refine SPL_nil ?_
                                            refine thenP_n ?_
                                            refine SP_cond_f rfl ?_
                                            refine SP_skip ?_
                                            refine thenP_n ?_
                                            rw [if_neg (by decide)] at hP
                                            refine SP_region ?_
                                            refine SPL_y (y_move rfl) rfl ?_
                                            refine SPL_y (y_fa fld_206_1 rfl) rfl ?_
                                            refine SPL_y (y_load Tryz.isAgg3 rfl (by repeat (first | exact Cell.amid hpre rfl | exact Cell.head rfl | apply Cell.tail))) rfl ?_
                                            refine SPL_y (y_fa fld_206_3 rfl) rfl ?_
                                            refine SPL_y (y_load Tryz.isAgg146 rfl (by repeat (first | exact Cell.amid hpre rfl | exact Cell.head rfl | apply Cell.tail))) rfl ?_
                                            refine SPL_one rfl (SP1_call (cm_do x eb hb hP _ hM0) Tryz.call95 rfl rfl (by repeat (first | exact Part.nil _ | (apply Part.cons; with_reducible (first | exact P0 | exact P1 | exact P2 | exact P3 | exact P4 | exact P5 | exact P6 | exact P7 | exact P8 | exact P9 | exact P10 | exact P11 | exact P12 | exact P13 | exact P14 | exact P15 | exact P16 | exact P17 | exact P18 | exact P19 | exact P20 | exact P21 | exact P22 | exact P23)) | (apply Part.flat; simp only [List.cons_append, List.nil_append]) | (apply Part.cons; (first | exact P0 | exact P1 | exact P2 | exact P3 | exact P4 | exact P5 | exact P6 | exact P7 | exact P8 | exact P9 | exact P10 | exact P11 | exact P12 | exact P13 | exact P14 | exact P15 | exact P16 | exact P17 | exact P18 | exact P19 | exact P20 | exact P21 | exact P22 | exact P23)) | (apply Part.nilc))) ?_)
                                            rintro v post H' ⟨rfl, sg9, hM9, rfl⟩ hH
                                            try simp only [List.cons_append, List.nil_append] at hH
                                            subst hH
                                            refine SPL_nil ?_
                                            refine inBlockP_n ?_
                                            refine bodyP_end (H' := [sg9]) (Res0 rfl) (by repeat (first | exact Part.nil _ | (apply Part.cons; with_reducible (first | exact P0 | exact P1 | exact P2 | exact P3 | exact P4 | exact P5 | exact P6 | exact P7 | exact P8 | exact P9 | exact P10 | exact P11 | exact P12 | exact P13 | exact P14 | exact P15 | exact P16 | exact P17 | exact P18 | exact P19 | exact P20 | exact P21 | exact P22 | exact P23)) | (apply Part.flat; simp only [List.cons_append, List.nil_append]) | (apply Part.cons; (first | exact P0 | exact P1 | exact P2 | exact P3 | exact P4 | exact P5 | exact P6 | exact P7 | exact P8 | exact P9 | exact P10 | exact P11 | exact P12 | exact P13 | exact P14 | exact P15 | exact P16 | exact P17 | exact P18 | exact P19 | exact P20 | exact P21 | exact P22 | exact P23)) | (apply Part.nilc))) ?_
                                            exact ⟨rfl, eb, hb, _, Gr.refl _ _, hM9, rfl⟩
                                        · try dsimp only [cond_true, cond_false, Bool.true_or, Bool.false_or] at hP
                                          refine SPO_p rfl (y_assign rfl) rfl ?_
                                          refine SPO_nil ?_
                                          refine thenP_n ?_
                                          refine SP_seq ?_
                                          refine SP_draw 13 [(0, 0), (1, 0), (2, 0), (4, 0), (5, 0), (6, 0), (8, 0), (9, 0), (3, 1), (7, 1), (10, 0), (11, 0), (12, 1), (13, 3), (14, 0)] mixed (by kernel_rfl) (fun _ _ _ _ _ h => h) (Part.refl _) ?_
                                          refine SPO_p rfl (y_move rfl) rfl ?_
                                          refine SPO_p rfl (y_nil rfl) rfl ?_
                                          refine SPO_p rfl (y_fa fld_142_0 rfl) rfl ?_
                                          refine SPO_p rfl (y_move rfl) rfl ?_
                                          refine SPO_p rfl (y_nil rfl) rfl ?_
                                          refine SPO_p rfl (y_fa fld_152_4 rfl) rfl ?_
                                          refine SPO_p rfl (y_move rfl) rfl ?_
                                          refine SPO_p rfl (y_sub rfl rfl (by omega)) rfl ?_
                                          rw [show ((m0.ths[c].vals.length : Nat) : Int) - 1 = ((m0.ths[c].vals.length - 1 : Nat) : Int) by omega]
                                          refine SPO_h rfl (y_load Tryz.isAgg78 rfl (by repeat (first | exact hM0.cNum _ | apply Cell.tail))) rfl ?_
                                          refine SPO_h rfl (y_load Tryz.isAgg90 rfl (by repeat (first | exact hVs _ | apply Cell.tail))) rfl ?_
                                          refine SPO_p rfl (y_ia Tryz.underlying90 Tryz.sizeOf42 rfl rfl (by omega)) rfl ?_
                                          refine SPO_p rfl (y_fa fld_42_1 rfl) rfl ?_
                                          refine SPO_h rfl (y_load Tryz.isAgg40 rfl (by repeat (first | exact hNve _ | apply Cell.tail))) rfl ?_
                                          refine SPO_z (k := 0) rfl rfl (SP1_call (nm_Cmp _ 3 vek 0 hvel (by decide)) Tryz.call105 rfl rfl (by repeat (first | exact Part.nil _ | (apply Part.cons; with_reducible (first | exact P0 | exact P1 | exact P2 | exact P3 | exact P4 | exact P5 | exact P6 | exact P7 | exact P8 | exact P9 | exact P10 | exact P11 | exact P12 | exact P13 | exact P14 | exact P15 | exact P16 | exact P17 | exact P18 | exact P19 | exact P20 | exact P21 | exact P22 | exact P23)) | (apply Part.flat; simp only [List.cons_append, List.nil_append]) | (apply Part.cons; (first | exact P0 | exact P1 | exact P2 | exact P3 | exact P4 | exact P5 | exact P6 | exact P7 | exact P8 | exact P9 | exact P10 | exact P11 | exact P12 | exact P13 | exact P14 | exact P15 | exact P16 | exact P17 | exact P18 | exact P19 | exact P20 | exact P21 | exact P22 | exact P23)) | (apply Part.nilc))) ?_)
                                          rintro v post H' ⟨rfl, rfl⟩ hH
                                          try simp only [List.cons_append, List.nil_append] at hH
                                          subst hH
                                          generalize hdn1 : cmpM 3 vek 0 = dn1 at hP
                                          rcases dn1 with _ | _
                                          · try dsimp only [cond_true, cond_false, Bool.true_or, Bool.false_or] at hP
                                            refine SPO_p rfl (y_assign rfl) rfl ?_
                                            refine SPO_nil ?_
                                            refine thenP_n ?_
                                            refine SP_seq ?_
                                            refine SP_seq ?_
                                            refine SP_region ?_
                                            refine SPL_y (y_move rfl) rfl ?_
                                            refine SPL_y (y_not_t rfl) rfl ?_
                                            refine SPL_y (y_move rfl) rfl ?_
                                            refine SPL_gn rfl rfl rfl rfl ?_
                                            refine SPL_gn rfl rfl rfl rfl ?_
                                            refine SPL_y (y_pick_f rfl rfl) rfl ?_
                                            refine SPL_nil ?_
                                            refine thenP_n ?_
                                            refine SP_cond_f rfl ?_
                                            refine SP_skip ?_
                                            refine thenP_n ?_
                                            rw [if_neg (by decide)] at hP
                                            refine SP_region ?_
                                            refine SPL_y (y_move rfl) rfl ?_
                                            refine SPL_y (y_fa fld_206_1 rfl) rfl ?_
                                            refine SPL_y (y_load Tryz.isAgg3 rfl (by repeat (first | exact Cell.amid hpre rfl | exact Cell.head rfl | apply Cell.tail))) rfl ?_
                                            refine SPL_y (y_fa fld_206_3 rfl) rfl ?_
                                            refine SPL_y (y_load Tryz.isAgg146 rfl (by repeat (first | exact Cell.amid hpre rfl | exact Cell.head rfl | apply Cell.tail))) rfl ?_
                                            refine SPL_one rfl (SP1_call (cm_do x eb hb hP _ hM0) Tryz.call95 rfl rfl (by repeat (first | exact Part.nil _ | (apply Part.cons; with_reducible (first | exact P0 | exact P1 | exact P2 | exact P3 | exact P4 | exact P5 | exact P6 | exact P7 | exact P8 | exact P9 | exact P10 | exact P11 | exact P12 | exact P13 | exact P14 | exact P15 | exact P16 | exact P17 | exact P18 | exact P19 | exact P20 | exact P21 | exact P22 | exact P23)) | (apply Part.flat; simp only [List.cons_append, List.nil_append]) | (apply Part.cons; (first | exact P0 | exact P1 | exact P2 | exact P3 | exact P4 | exact P5 | exact P6 | exact P7 | exact P8 | exact P9 | exact P10 | exact P11 | exact P12 | exact P13 | exact P14 | exact P15 | exact P16 | exact P17 | exact P18 | exact P19 | exact P20 | exact P21 | exact P22 | exact P23)) | (apply Part.nilc))) ?_)
                                            rintro v post H' ⟨rfl, sg9, hM9, rfl⟩ hH
                                            try simp only [List.cons_append, List.nil_append] at hH
                                            subst hH
                                            refine SPL_nil ?_
                                            refine inBlockP_n ?_
                                            refine bodyP_end (H' := [sg9]) (Res0 rfl) (by repeat (first | exact Part.nil _ | (apply Part.cons; with_reducible (first | exact P0 | exact P1 | exact P2 | exact P3 | exact P4 | exact P5 | exact P6 | exact P7 | exact P8 | exact P9 | exact P10 | exact P11 | exact P12 | exact P13 | exact P14 | exact P15 | exact P16 | exact P17 | exact P18 | exact P19 | exact P20 | exact P21 | exact P22 | exact P23)) | (apply Part.flat; simp only [List.cons_append, List.nil_append]) | (apply Part.cons; (first | exact P0 | exact P1 | exact P2 | exact P3 | exact P4 | exact P5 | exact P6 | exact P7 | exact P8 | exact P9 | exact P10 | exact P11 | exact P12 | exact P13 | exact P14 | exact P15 | exact P16 | exact P17 | exact P18 | exact P19 | exact P20 | exact P21 | exact P22 | exact P23)) | (apply Part.nilc))) ?_
                                            exact ⟨rfl, eb, hb, _, Gr.refl _ _, hM9, rfl⟩
                                          · try dsimp only [cond_true, cond_false, Bool.true_or, Bool.false_or] at hP
                                            refine SPO_p rfl (y_assign rfl) rfl ?_
                                            refine SPO_nil ?_
                                            refine thenP_n ?_
                                            refine SP_seq ?_
                                            refine SP_seq ?_
                                            refine SP_region ?_
                                            refine SPL_y (y_move rfl) rfl ?_
                                            refine SPL_y (y_not_t rfl) rfl ?_
                                            refine SPL_y (y_move rfl) rfl ?_
                                            refine SPL_gn rfl rfl rfl rfl ?_
                                            refine SPL_gn rfl rfl rfl rfl ?_
                                            refine SPL_y (y_pick_f rfl rfl) rfl ?_
                                            refine SPL_nil ?_
                                            refine thenP_n ?_
                                            refine SP_cond_f rfl ?_
                                            refine SP_skip ?_
                                            refine thenP_n ?_
                                            rw [if_neg (by decide)] at hP
                                            refine SP_region ?_
                                            refine SPL_y (y_move rfl) rfl ?_
                                            refine SPL_y (y_fa fld_206_1 rfl) rfl ?_
                                            refine SPL_y (y_load Tryz.isAgg3 rfl (by repeat (first | exact Cell.amid hpre rfl | exact Cell.head rfl | apply Cell.tail))) rfl ?_
                                            refine SPL_y (y_fa fld_206_3 rfl) rfl ?_
                                            refine SPL_y (y_load Tryz.isAgg146 rfl (by repeat (first | exact Cell.amid hpre rfl | exact Cell.head rfl | apply Cell.tail))) rfl ?_
                                            refine SPL_one rfl (SP1_call (cm_do x eb hb hP _ hM0) Tryz.call95 rfl rfl (by repeat (first | exact Part.nil _ | (apply Part.cons; with_reducible (first | exact P0 | exact P1 | exact P2 | exact P3 | exact P4 | exact P5 | exact P6 | exact P7 | exact P8 | exact P9 | exact P10 | exact P11 | exact P12 | exact P13 | exact P14 | exact P15 | exact P16 | exact P17 | exact P18 | exact P19 | exact P20 | exact P21 | exact P22 | exact P23)) | (apply Part.flat; simp only [List.cons_append, List.nil_append]) | (apply Part.cons; (first | exact P0 | exact P1 | exact P2 | exact P3 | exact P4 | exact P5 | exact P6 | exact P7 | exact P8 | exact P9 | exact P10 | exact P11 | exact P12 | exact P13 | exact P14 | exact P15 | exact P16 | exact P17 | exact P18 | exact P19 | exact P20 | exact P21 | exact P22 | exact P23)) | (apply Part.nilc))) ?_)
                                            rintro v post H' ⟨rfl, sg9, hM9, rfl⟩ hH
                                            try simp only [List.cons_append, List.nil_append] at hH
                                            subst hH
                                            refine SPL_nil ?_
                                            refine inBlockP_n ?_
                                            refine bodyP_end (H' := [sg9]) (Res0 rfl) (by repeat (first | exact Part.nil _ | (apply Part.cons; with_reducible (first | exact P0 | exact P1 | exact P2 | exact P3 | exact P4 | exact P5 | exact P6 | exact P7 | exact P8 | exact P9 | exact P10 | exact P11 | exact P12 | exact P13 | exact P14 | exact P15 | exact P16 | exact P17 | exact P18 | exact P19 | exact P20 | exact P21 | exact P22 | exact P23)) | (apply Part.flat; simp only [List.cons_append, List.nil_append]) | (apply Part.cons; (first | exact P0 | exact P1 | exact P2 | exact P3 | exact P4 | exact P5 | exact P6 | exact P7 | exact P8 | exact P9 | exact P10 | exact P11 | exact P12 | exact P13 | exact P14 | exact P15 | exact P16 | exact P17 | exact P18 | exact P19 | exact P20 | exact P21 | exact P22 | exact P23)) | (apply Part.nilc))) ?_
                                            exact ⟨rfl, eb, hb, _, Gr.refl _ _, hM9, rfl⟩
                              intro h58_0
                              first | rw [if_neg h58_0] at hP | rw [if_pos (Decidable.not_not.1 h58_0)] at hP | skip
                              as_aux_lemma =>
                                refine SPL_y (y_assign rfl) rfl ?_
                                refine SPL_nil ?_
                                refine thenP_n ?_
                                refine SP_cond_f rfl ?_
                                refine SP_seq ?_
                                refine SP_region ?_
                                refine SPL_if (y_eql rfl rfl) rfl ?_ ?_
                                · intro h67_0
                                  first | rw [if_pos h67_0] at hP | rw [if_neg h67_0] at hP | skip
                                  as_aux_lemma =>
                                    refine SPL_y (y_assign rfl) rfl ?_
                                    refine SPL_nil ?_
                                    refine thenP_n ?_
                                    refine SP_cond_t rfl ?_
                                    refine SP_seq ?_
                                    have hcc := hcc0
                                    have hc := hc0
                                    have hg2 := hg0
                                    unfold k16 at hP
                                    obtain ⟨va, hvva, hP⟩ := bnd1 hP
                                    obtain ⟨⟨_, hvkva, hvlva⟩, hiva, hxva⟩ := vTop_some hvva hcc hc
                                    obtain ⟨vb, hvvb, hP⟩ := bnd1 hP
                                    obtain ⟨⟨_, hvkvb, hvlvb⟩, hivb, hxvb⟩ := vTop_some hvvb hcc hc
                                    obtain ⟨ve, hvve, hP⟩ := bnd1 hP
                                    obtain ⟨⟨_, hvkve, hvlve⟩, hive, hxve⟩ := vTop_some hvve hcc hc
                                    obtain ⟨vk, vc, hVs, hVc⟩ := hM0.tops hc (by omega)
                                    have hCva : ∀ H : Hp, Cells (sg0 :: H) vk (0 + ((m0.ths[c].vals.length - 3 : Nat) : Int).toNat * 3) (valV va) := fun H => by have := hVc _ hiva H; rwa [hxva] at this
                                    have hTva : ∀ H : Hp, Cell (sg0 :: H) vk (0 + ((m0.ths[c].vals.length - 3 : Nat) : Int).toNat * 3 + 0) (I va.t) := fun H => (hCva H).cell (j := 0) rfl
                                    have hCvb : ∀ H : Hp, Cells (sg0 :: H) vk (0 + ((m0.ths[c].vals.length - 2 : Nat) : Int).toNat * 3) (valV vb) := fun H => by have := hVc _ hivb H; rwa [hxvb] at this
                                    have hTvb : ∀ H : Hp, Cell (sg0 :: H) vk (0 + ((m0.ths[c].vals.length - 2 : Nat) : Int).toNat * 3 + 0) (I vb.t) := fun H => (hCvb H).cell (j := 0) rfl
                                    have hCve : ∀ H : Hp, Cells (sg0 :: H) vk (0 + ((m0.ths[c].vals.length - 1 : Nat) : Int).toNat * 3) (valV ve) := fun H => by have := hVc _ hive H; rwa [hxve] at this
                                    have hTve : ∀ H : Hp, Cell (sg0 :: H) vk (0 + ((m0.ths[c].vals.length - 1 : Nat) : Int).toNat * 3 + 0) (I ve.t) := fun H => (hCve H).cell (j := 0) rfl
                                    have hr3 : numR va = true ∧ numR vb = true ∧ numR ve = true := Decidable.byContradiction fun z => by rw [if_neg z] at hP; cases hP
                                    rw [if_pos hr3] at hP
                                    obtain ⟨hrva, hrvb, hrve⟩ := hr3
                                    obtain ⟨vak, hvak, hval⟩ := numR_k hrva
                                    have hNva : ∀ H : Hp, Cell (sg0 :: H) vk (0 + ((m0.ths[c].vals.length - 3 : Nat) : Int).toNat * 3 + 1) (.int .u64 (vak : Int)) := fun H => by have := (hCva H).cell (j := 1) (v := .int .u64 va.n) rfl; rwa [hvak] at this
                                    rw [hvak, Int.toNat_natCast] at hP
                                    obtain ⟨vbk, hvbk, hvbl⟩ := numR_k hrvb
                                    have hNvb : ∀ H : Hp, Cell (sg0 :: H) vk (0 + ((m0.ths[c].vals.length - 2 : Nat) : Int).toNat * 3 + 1) (.int .u64 (vbk : Int)) := fun H => by have := (hCvb H).cell (j := 1) (v := .int .u64 vb.n) rfl; rwa [hvbk] at this
                                    rw [hvbk, Int.toNat_natCast] at hP
                                    obtain ⟨vek, hvek, hvel⟩ := numR_k hrve
                                    have hNve : ∀ H : Hp, Cell (sg0 :: H) vk (0 + ((m0.ths[c].vals.length - 1 : Nat) : Int).toNat * 3 + 1) (.int .u64 (vek : Int)) := fun H => by have := (hCve H).cell (j := 1) (v := .int .u64 ve.n) rfl; rwa [hvek] at this
                                    rw [hvek, Int.toNat_natCast] at hP
                                    refine SP_region ?_
                                    refine SPL_y (y_move rfl) rfl ?_
                                    refine SPL_y (y_nil rfl) rfl ?_
                                    refine SPL_y (y_fa fld_152_4 rfl) rfl ?_
                                    refine SPL_y (y_load Tryz.isAgg90 rfl (by repeat (first | exact hVs _ | apply Cell.tail))) rfl ?_
                                    refine SPL_y (y_len_l Tryz.underlying90 rfl) rfl ?_
                                    refine SPL_y (y_assign rfl) rfl ?_
                                    refine SPL_nil ?_
                                    refine thenP_n ?_
                                    refine SP_seq ?_
                                    refine SP_draw 13 [(0, 0), (1, 0), (2, 0), (4, 0), (5, 0), (6, 0), (8, 0), (9, 0), (3, 1), (7, 1), (10, 0), (11, 0), (12, 1), (13, 3), (14, 0)] mixed (by kernel_rfl) (fun _ _ _ _ _ h => h) (Part.refl _) ?_
                                    refine SPO_p rfl (y_move rfl) rfl ?_
                                    refine SPO_p rfl (y_nil rfl) rfl ?_
                                    refine SPO_p rfl (y_fa fld_142_0 rfl) rfl ?_
                                    refine SPO_p rfl (y_move rfl) rfl ?_
                                    refine SPO_p rfl (y_nil rfl) rfl ?_
                                    refine SPO_p rfl (y_fa fld_152_4 rfl) rfl ?_
                                    refine SPO_p rfl (y_move rfl) rfl ?_
                                    refine SPO_p rfl (y_sub rfl rfl (by omega)) rfl ?_
                                    rw [show ((m0.ths[c].vals.length : Nat) : Int) - 1 = ((m0.ths[c].vals.length - 1 : Nat) : Int) by omega]
                                    refine SPO_h rfl (y_load Tryz.isAgg78 rfl (by repeat (first | exact hM0.cNum _ | apply Cell.tail))) rfl ?_
                                    refine SPO_h rfl (y_load Tryz.isAgg90 rfl (by repeat (first | exact hVs _ | apply Cell.tail))) rfl ?_
                                    refine SPO_p rfl (y_ia Tryz.underlying90 Tryz.sizeOf42 rfl rfl (by omega)) rfl ?_
                                    refine SPO_p rfl (y_fa fld_42_1 rfl) rfl ?_
                                    refine SPO_h rfl (y_load Tryz.isAgg40 rfl (by repeat (first | exact hNve _ | apply Cell.tail))) rfl ?_
                                    refine SPO_z (k := 0) rfl rfl (SP1_call (nm_Cmp _ 5 vek 0 hvel (by decide)) Tryz.call105 rfl rfl (by repeat (first | exact Part.nil _ | (apply Part.cons; with_reducible (first | exact P0 | exact P1 | exact P2 | exact P3 | exact P4 | exact P5 | exact P6 | exact P7 | exact P8 | exact P9 | exact P10 | exact P11 | exact P12 | exact P13 | exact P14 | exact P15 | exact P16 | exact P17 | exact P18 | exact P19 | exact P20 | exact P21 | exact P22 | exact P23)) | (apply Part.flat; simp only [List.cons_append, List.nil_append]) | (apply Part.cons; (first | exact P0 | exact P1 | exact P2 | exact P3 | exact P4 | exact P5 | exact P6 | exact P7 | exact P8 | exact P9 | exact P10 | exact P11 | exact P12 | exact P13 | exact P14 | exact P15 | exact P16 | exact P17 | exact P18 | exact P19 | exact P20 | exact P21 | exact P22 | exact P23)) | (apply Part.nilc))) ?_)
                                    rintro v post H' ⟨rfl, rfl⟩ hH
                                    try simp only [List.cons_append, List.nil_append] at hH
                                    subst hH
                                    generalize hup1 : cmpM 5 vek 0 = up1 at hP
                                    rcases up1 with _ | _
                                    · try dsimp only [cond_true, cond_false, Bool.true_or, Bool.false_or] at hP
                                      refine SPO_p rfl (y_assign rfl) rfl ?_
                                      refine SPO_nil ?_
                                      refine thenP_n ?_
                                      refine SP_seq ?_
                                      refine SP_region ?_
                                      refine SPL_y (y_assign rfl) rfl ?_
                                      refine SPL_nil ?_
                                      refine thenP_n ?_
                                      refine SP_mid (G := Bool) (fun on => [(0, ptr x.b), (2, ptr (hb.getD c 0)), (3, ptr b3), (4, ptr b4), (21, I (m0.ths[c].vals.length : Int)), (23, .bool on)]) (fun _ => [sg0, blk b3 206 (tskV eb q), blk b4 158 (ndV d)]) (fun on => (if on = false then rcutV 3 m0 else bind1 (rdo 17 q.n 0 q.e m0) fun m1 => bind2 (newE d.s va q.e m1) fun i m2 => rdo 1 d.b 0 (some i) m2) = some m') ?_ ?_
                                      · refine SP_seq ?_
                                        refine SP_region ?_
                                        refine SPL_y (y_move rfl) rfl ?_
                                        refine SPL_nil ?_
                                        refine thenP_n ?_
                                        refine SP_cond_f rfl ?_
                                        rw [if_neg (show ¬ (false = true) by decide)] at hP
                                        refine SP_draw 22 [(0, 0), (1, 0), (2, 0), (4, 0), (5, 0), (6, 0), (8, 0), (9, 0), (13, 0), (14, 0), (15, 0), (17, 0), (18, 0), (3, 1), (7, 1), (10, 0), (11, 0), (12, 1), (16, 1), (19, 0), (20, 0), (21, 1), (22, 3), (23, 0)] mixed (by kernel_rfl) (fun _ _ _ _ _ h => h) (Part.refl _) ?_
                                        refine SPO_p rfl (y_move rfl) rfl ?_
                                        refine SPO_p rfl (y_nil rfl) rfl ?_
                                        refine SPO_p rfl (y_fa fld_142_0 rfl) rfl ?_
                                        refine SPO_p rfl (y_move rfl) rfl ?_
                                        refine SPO_p rfl (y_nil rfl) rfl ?_
                                        refine SPO_p rfl (y_fa fld_152_4 rfl) rfl ?_
                                        refine SPO_p rfl (y_move rfl) rfl ?_
                                        refine SPO_p rfl (y_sub rfl rfl (by omega)) rfl ?_
                                        rw [show ((m0.ths[c].vals.length : Nat) : Int) - 3 = ((m0.ths[c].vals.length - 3 : Nat) : Int) by omega]
                                        refine SPO_p rfl (y_move rfl) rfl ?_
                                        refine SPO_p rfl (y_nil rfl) rfl ?_
                                        refine SPO_p rfl (y_fa fld_152_4 rfl) rfl ?_
                                        refine SPO_p rfl (y_move rfl) rfl ?_
                                        refine SPO_p rfl (y_sub rfl rfl (by omega)) rfl ?_
                                        rw [show ((m0.ths[c].vals.length : Nat) : Int) - 2 = ((m0.ths[c].vals.length - 2 : Nat) : Int) by omega]
                                        refine SPO_h rfl (y_load Tryz.isAgg78 rfl (by repeat (first | exact hM0.cNum _ | apply Cell.tail))) rfl ?_
                                        refine SPO_h rfl (y_load Tryz.isAgg90 rfl (by repeat (first | exact hVs _ | apply Cell.tail))) rfl ?_
                                        refine SPO_p rfl (y_ia Tryz.underlying90 Tryz.sizeOf42 rfl rfl (by omega)) rfl ?_
                                        refine SPO_p rfl (y_fa fld_42_1 rfl) rfl ?_
                                        refine SPO_h rfl (y_load Tryz.isAgg40 rfl (by repeat (first | exact hNva _ | apply Cell.tail))) rfl ?_
                                        refine SPO_h rfl (y_load Tryz.isAgg90 rfl (by repeat (first | exact hVs _ | apply Cell.tail))) rfl ?_
                                        refine SPO_p rfl (y_ia Tryz.underlying90 Tryz.sizeOf42 rfl rfl (by omega)) rfl ?_
                                        refine SPO_p rfl (y_fa fld_42_1 rfl) rfl ?_
                                        refine SPO_h rfl (y_load Tryz.isAgg40 rfl (by repeat (first | exact hNvb _ | apply Cell.tail))) rfl ?_
                                        refine SPO_z (k := 0) rfl rfl (SP1_call (nm_Cmp _ 6 vak vbk hval hvbl) Tryz.call105 rfl rfl (by repeat (first | exact Part.nil _ | (apply Part.cons; with_reducible (first | exact P0 | exact P1 | exact P2 | exact P3 | exact P4 | exact P5 | exact P6 | exact P7 | exact P8 | exact P9 | exact P10 | exact P11 | exact P12 | exact P13 | exact P14 | exact P15 | exact P16 | exact P17 | exact P18 | exact P19 | exact P20 | exact P21 | exact P22 | exact P23)) | (apply Part.flat; simp only [List.cons_append, List.nil_append]) | (apply Part.cons; (first | exact P0 | exact P1 | exact P2 | exact P3 | exact P4 | exact P5 | exact P6 | exact P7 | exact P8 | exact P9 | exact P10 | exact P11 | exact P12 | exact P13 | exact P14 | exact P15 | exact P16 | exact P17 | exact P18 | exact P19 | exact P20 | exact P21 | exact P22 | exact P23)) | (apply Part.nilc))) ?_)
                                        rintro v post H' ⟨rfl, rfl⟩ hH
                                        try simp only [List.cons_append, List.nil_append] at hH
                                        subst hH
                                        generalize hon1 : cmpM 6 vak vbk = on1 at hP
                                        refine SPO_p rfl (y_assign rfl) rfl ?_
                                        refine SPO_nil ?_
                                        refine thenP_n ?_
                                        exact Mid.intro (on1) (hP) (by repeat (first | exact Sub.nil _ | refine Sub.cons rfl ?_)) (by repeat (first | exact Part.nil _ | (apply Part.cons; with_reducible (first | exact P0 | exact P1 | exact P2 | exact P3 | exact P4 | exact P5 | exact P6 | exact P7 | exact P8 | exact P9 | exact P10 | exact P11 | exact P12 | exact P13 | exact P14 | exact P15 | exact P16 | exact P17 | exact P18 | exact P19 | exact P20 | exact P21 | exact P22 | exact P23)) | (apply Part.flat; simp only [List.cons_append, List.nil_append]) | (apply Part.cons; (first | exact P0 | exact P1 | exact P2 | exact P3 | exact P4 | exact P5 | exact P6 | exact P7 | exact P8 | exact P9 | exact P10 | exact P11 | exact P12 | exact P13 | exact P14 | exact P15 | exact P16 | exact P17 | exact P18 | exact P19 | exact P20 | exact P21 | exact P22 | exact P23)) | (apply Part.nilc)))
                                      clear hP
                                      rintro on1 hP
                                      rcases on1 with _ | _
                                      · refine SP_seq ?_
                                        refine SP_seq ?_
                                        refine SP_region ?_
                                        refine SPL_y (y_move rfl) rfl ?_
                                        refine SPL_y (y_not_f rfl) rfl ?_
                                        refine SPL_nil ?_
                                        refine thenP_n ?_
                                        refine SP_cond_t rfl ?_
                                        refine SP_seq ?_
                                        rw [if_pos rfl] at hP
                                        obtain rfl := rcutV_some hP hcc hc
                                        obtain ⟨ca, cc, hk, hc', hsp, s0, s1, s2, s3, s4, sX, sA, sZ, R, ta, tc, va, vc, sa, sv, rfl, hstk, hhl, hTA, hVA, hTS, hput⟩ := isRm_open hM0 hc
                                        refine SP_openAt [blk x.b 142 [ptr x.nb, ptr x.tb, Value.slice x.na m0.nodes.length x.nc, I m0.root, Value.slice ca m0.clos.length cc, Value.slice (some ⟨hk, 0, none⟩) m0.ths.length hc', I s0, I s1, I s2, I s3, I s4, I m0.sp, I m0.cur, I m0.fuel, I m0.first, S m0.out, .bool m0.done, I m0.ans.e, I m0.ans.n, I m0.ans.m, S m0.ans.s, S m0.ans.t], sX, blk hk 149 (hb.map ptr ++ hsp), sA, List.flatten [blk (hb.getD c 0) 152 [I m0.ths[c].st, I m0.ths[c].fn, I (m0.ths[c].depth), Value.slice ta (m0.ths[c].tasks.length) tc, Value.slice va (m0.ths[c].vals.length) vc], sa, sv], sZ, R] (by first | exact P0 | exact P1 | exact P2 | exact P3 | exact P4 | exact P5 | exact P6 | exact P7 | exact P8 | exact P9 | exact P10 | exact P11 | exact P12 | exact P13 | exact P14 | exact P15 | exact P16 | exact P17 | exact P18 | exact P19 | exact P20 | exact P21 | exact P22 | exact P23) ?_
                                        simp only [List.cons_append, List.nil_append]
                                        refine SP_openAt [blk (hb.getD c 0) 152 [I m0.ths[c].st, I m0.ths[c].fn, I (m0.ths[c].depth), Value.slice ta (m0.ths[c].tasks.length) tc, Value.slice va (m0.ths[c].vals.length) vc], sa, sv] (by first | exact P0 | exact P1 | exact P2 | exact P3 | exact P4 | exact P5 | exact P6 | exact P7 | exact P8 | exact P9 | exact P10 | exact P11 | exact P12 | exact P13 | exact P14 | exact P15 | exact P16 | exact P17 | exact P18 | exact P19 | exact P20 | exact P21 | exact P22 | exact P23) ?_
                                        simp only [List.cons_append, List.nil_append]
                                        have hcell : ∀ H : Hp, Cell (blk hk 149 (hb.map ptr ++ hsp) :: H) hk (0 + ((c : Nat) : Int).toNat * 1) (ptr (hb.getD c 0)) := fun H => Cell.head (hb_at hhl hc)
                                        rw [hcc]
                                        have hvle := hVA.mle
                                        refine SP_region ?_
                                        refine SPL_y (y_move rfl) rfl ?_
                                        refine SPL_y (y_move rfl) rfl ?_
                                        refine SPL_y (y_nil rfl) rfl ?_
                                        refine SPL_y (y_fa fld_152_4 rfl) rfl ?_
                                        refine SPL_y (y_load Tryz.isAgg90 rfl (by repeat (first | exact Cell.amid hpre rfl | exact Cell.head rfl | apply Cell.tail))) rfl ?_
                                        refine SPL_y (y_move rfl) rfl ?_
                                        refine SPL_y (y_sub rfl rfl (by omega)) rfl ?_
                                        rw [show ((m0.ths[c].vals.length : Nat) : Int) - 3 = ((m0.ths[c].vals.length - 3 : Nat) : Int) by omega]
                                        refine SPL_y (y_cut hVA Tryz.underlying90 Tryz.sizeOf42 rfl rfl (by omega)) rfl ?_
                                        refine SPL_y (y_nil rfl) rfl ?_
                                        refine SPL_y (y_fa fld_152_4 rfl) rfl ?_
                                        refine SPL_one rfl (SP1_store Tryz.sizeOf90 rfl rfl rfl (by first | exact U0 | exact U1 | exact U2 | exact U3 | exact U4 | exact U5 | exact U6 | exact U7 | exact U8 | exact U9 | exact U10 | exact U11 | exact U12 | exact U13 | exact U14 | exact U15 | exact U16 | exact U17 | exact U18 | exact U19 | exact U20 | exact U21 | exact U22 | exact U23) (by rfl) ?_)
                                        refine SPL_nil ?_
                                        refine thenP_n ?_
                                        refine SP_ret ?_
                                        refine thenP_ret (inBlockP_ret (bodyP_ret (H' := [List.flatten [blk x.b 142 [ptr x.nb, ptr x.tb, Value.slice x.na m0.nodes.length x.nc, I m0.root, Value.slice ca m0.clos.length cc, Value.slice (some ⟨hk, 0, none⟩) m0.ths.length hc', I s0, I s1, I s2, I s3, I s4, I m0.sp, I (c : Int), I m0.fuel, I m0.first, S m0.out, .bool m0.done, I m0.ans.e, I m0.ans.n, I m0.ans.m, S m0.ans.s, S m0.ans.t], sX, blk hk 149 (hb.map ptr ++ hsp), sA, List.flatten [blk (hb.getD c 0) 152 [I m0.ths[c].st, I m0.ths[c].fn, I (m0.ths[c].depth), Value.slice ta (m0.ths[c].tasks.length) tc, Value.slice va (m0.ths[c].vals.length - 3) vc], sa, sv], sZ, R]]) (Res0 rfl) (by repeat (first | exact Part.nil _ | (apply Part.cons; with_reducible (first | exact P0 | exact P1 | exact P2 | exact P3 | exact P4 | exact P5 | exact P6 | exact P7 | exact P8 | exact P9 | exact P10 | exact P11 | exact P12 | exact P13 | exact P14 | exact P15 | exact P16 | exact P17 | exact P18 | exact P19 | exact P20 | exact P21 | exact P22 | exact P23)) | (apply Part.flat; simp only [List.cons_append, List.nil_append]) | (apply Part.cons; (first | exact P0 | exact P1 | exact P2 | exact P3 | exact P4 | exact P5 | exact P6 | exact P7 | exact P8 | exact P9 | exact P10 | exact P11 | exact P12 | exact P13 | exact P14 | exact P15 | exact P16 | exact P17 | exact P18 | exact P19 | exact P20 | exact P21 | exact P22 | exact P23)) | (apply Part.nilc))) ?_))
                                        refine ⟨rfl, eb, hb, _, Gr.refl _ _, hput (rset m0 { m0.ths[c] with vals := m0.ths[c].vals.take (m0.ths[c].vals.length - 3) }) s0 s1 s2 s3 s4 ({ m0.ths[c] with vals := m0.ths[c].vals.take (m0.ths[c].vals.length - 3) }) ta tc va vc sa sv (m0.ths[c].tasks.length) (m0.ths[c].vals.length - 3) rfl rfl rfl ?_ rfl rfl hstk rfl (by simp) (hTA) ((by have := hVA.cut (j := m0.ths[c].vals.length - 3) (by omega); rwa [flat_tk1 valV_len] at this)) (hTS), ?_⟩
                                        · unfold rset; rw [hcc]; rfl
                                        · rw [← hcc]; rfl
                                      · refine SP_seq ?_
                                        refine SP_seq ?_
                                        refine SP_region ?_
                                        refine SPL_y (y_move rfl) rfl ?_
                                        refine SPL_y (y_not_t rfl) rfl ?_
                                        refine SPL_nil ?_
                                        refine thenP_n ?_
                                        refine SP_cond_f rfl ?_
                                        refine SP_skip ?_
                                        refine thenP_n ?_
                                        refine SP_seq ?_
                                        rw [if_neg (by decide)] at hP
                                        refine SP_region ?_
                                        refine SPL_y (y_move rfl) rfl ?_
                                        refine SPL_y (y_fa fld_206_1 rfl) rfl ?_
                                        refine SPL_y (y_load Tryz.isAgg3 rfl (by repeat (first | exact Cell.amid hpre rfl | exact Cell.head rfl | apply Cell.tail))) rfl ?_
                                        refine SPL_y (y_fa fld_206_3 rfl) rfl ?_
                                        refine SPL_y (y_load Tryz.isAgg146 rfl (by repeat (first | exact Cell.amid hpre rfl | exact Cell.head rfl | apply Cell.tail))) rfl ?_
                                        obtain ⟨m1, hq1, hP⟩ := bnd1 hP
                                        refine SPL_one rfl (SP1_call (cm_do x eb hb hq1 _ hM0) Tryz.call95 rfl rfl (by repeat (first | exact Part.nil _ | (apply Part.cons; with_reducible (first | exact P0 | exact P1 | exact P2 | exact P3 | exact P4 | exact P5 | exact P6 | exact P7 | exact P8 | exact P9 | exact P10 | exact P11 | exact P12 | exact P13 | exact P14 | exact P15 | exact P16 | exact P17 | exact P18 | exact P19 | exact P20 | exact P21 | exact P22 | exact P23)) | (apply Part.flat; simp only [List.cons_append, List.nil_append]) | (apply Part.cons; (first | exact P0 | exact P1 | exact P2 | exact P3 | exact P4 | exact P5 | exact P6 | exact P7 | exact P8 | exact P9 | exact P10 | exact P11 | exact P12 | exact P13 | exact P14 | exact P15 | exact P16 | exact P17 | exact P18 | exact P19 | exact P20 | exact P21 | exact P22 | exact P23)) | (apply Part.nilc))) ?_)
                                        rintro v post H' ⟨rfl, sg1, hM1, rfl⟩ hH
                                        try simp only [List.cons_append, List.nil_append] at hH
                                        subst hH
                                        refine SPL_nil ?_
                                        refine thenP_n ?_
                                        obtain ⟨hc1, hcc1, hvv⟩ := rdo_thr hq1 hcc hc
                                        obtain ⟨vk1, vc1, hVs1, hVc1⟩ := hM1.topsE hc1 hvv (by omega)
                                        have hCva1 : ∀ H : Hp, Cells (sg1 :: H) vk1 (0 + ((m0.ths[c].vals.length - 3 : Nat) : Int).toNat * 3) (valV va) := fun H => by have := hVc1 _ hiva H; rwa [hxva] at this
                                        refine SP_draw 17 [(0, 0), (1, 0), (3, 0), (5, 0), (6, 0), (7, 0), (9, 0), (10, 0), (13, 0), (2, 1), (4, 1), (8, 1), (11, 0), (12, 1), (14, 1), (15, 0), (16, 2), (17, 3)] mixed (by kernel_rfl) (fun _ _ _ _ _ h => h) (Part.refl _) ?_
                                        refine SPO_p rfl (y_move rfl) rfl ?_
                                        refine SPO_p rfl (y_fa fld_158_2 rfl) rfl ?_
                                        refine SPO_p rfl (y_fa fld_158_6 rfl) rfl ?_
                                        refine SPO_p rfl (y_move rfl) rfl ?_
                                        refine SPO_p rfl (y_nil rfl) rfl ?_
                                        refine SPO_p rfl (y_fa fld_152_4 rfl) rfl ?_
                                        refine SPO_p rfl (y_move rfl) rfl ?_
                                        refine SPO_p rfl (y_sub rfl rfl (by omega)) rfl ?_
                                        rw [show ((m0.ths[c].vals.length : Nat) : Int) - 3 = ((m0.ths[c].vals.length - 3 : Nat) : Int) by omega]
                                        refine SPO_p rfl (y_fa fld_206_3 rfl) rfl ?_
                                        refine SPO_h rfl (y_load Tryz.isAgg3 rfl (by repeat (first | exact Cell.amid hpre rfl | exact Cell.head rfl | apply Cell.tail))) rfl ?_
                                        refine SPO_h rfl (y_load Tryz.isAgg9 rfl (by repeat (first | exact Cell.amid hpre rfl | exact Cell.head rfl | apply Cell.tail))) rfl ?_
                                        refine SPO_h rfl (y_load Tryz.isAgg90 rfl (by repeat (first | exact hVs1 _ | apply Cell.tail))) rfl ?_
                                        refine SPO_p rfl (y_ia Tryz.underlying90 Tryz.sizeOf42 rfl rfl (by omega)) rfl ?_
                                        refine SPO_h rfl (y_loads Tryz.isAgg42 Tryz.sizeOf42 rfl rfl (by repeat (first | exact hCva1 _ | apply Cells.tail))) rfl ?_
                                        refine SPO_h rfl (y_load Tryz.isAgg146 rfl (by repeat (first | exact Cell.amid hpre rfl | exact Cell.head rfl | apply Cell.tail))) rfl ?_
                                        refine SPO_p rfl (y_buildN (l := [S d.s, I va.t, .int .u64 va.n, S va.s, ePt eb q.e]) BN204 rfl (fill_env3 _ va _)) rfl ?_
                                        refine SPO_a rfl rfl (SP1_box rfl rfl rfl ?_)
                                        intro b486
                                        refine ⟨⟨_, (by repeat (first | exact Part.nil _ | (apply Part.cons; with_reducible (first | exact P0 | exact P1 | exact P2 | exact P3 | exact P4 | exact P5 | exact P6 | exact P7 | exact P8 | exact P9 | exact P10 | exact P11 | exact P12 | exact P13 | exact P14 | exact P15 | exact P16 | exact P17 | exact P18 | exact P19 | exact P20 | exact P21 | exact P22 | exact P23)) | (apply Part.flat; simp only [List.cons_append, List.nil_append]) | (apply Part.cons; (first | exact P0 | exact P1 | exact P2 | exact P3 | exact P4 | exact P5 | exact P6 | exact P7 | exact P8 | exact P9 | exact P10 | exact P11 | exact P12 | exact P13 | exact P14 | exact P15 | exact P16 | exact P17 | exact P18 | exact P19 | exact P20 | exact P21 | exact P22 | exact P23)) | (apply Part.nilc)))⟩, ?_⟩
                                        obtain ⟨i2, m2, hq2, hP⟩ := bnd2 hP
                                        obtain ⟨rfl, rfl, hes2⟩ := newE_some hq2
                                        have hel2 := hM1.sc.el
                                        obtain ⟨sg2, hM2, hpt2⟩ := isRm_new hM1 b486 (e := ⟨d.s, va, q.e⟩) (fun i hi => by rw [hel2]; exact hes2 i hi)
                                        refine SPO_part (H' := [sg1, blk b486 204 (evV eb ⟨d.s, va, q.e⟩), blk b3 206 (tskV eb q), blk b4 158 (ndV d)]) (by repeat (first | exact Part.nil _ | (apply Part.cons; with_reducible (first | exact P0 | exact P1 | exact P2 | exact P3 | exact P4 | exact P5 | exact P6 | exact P7 | exact P8 | exact P9 | exact P10 | exact P11 | exact P12 | exact P13 | exact P14 | exact P15 | exact P16 | exact P17 | exact P18 | exact P19 | exact P20 | exact P21 | exact P22 | exact P23)) | (apply Part.flat; simp only [List.cons_append, List.nil_append]) | (apply Part.cons; (first | exact P0 | exact P1 | exact P2 | exact P3 | exact P4 | exact P5 | exact P6 | exact P7 | exact P8 | exact P9 | exact P10 | exact P11 | exact P12 | exact P13 | exact P14 | exact P15 | exact P16 | exact P17 | exact P18 | exact P19 | exact P20 | exact P21 | exact P22 | exact P23)) | (apply Part.nilc))) ?_
                                        refine SPO_part (hpt2 [blk b3 206 (tskV eb q), blk b4 158 (ndV d)]) ?_
                                        rw [newPt (eb := eb) hel2]
                                        refine SPO_z (k := 0) rfl rfl (SP1_call (cm_do x (eb ++ [b486]) hb hP _ hM2) Tryz.call95 rfl rfl (by repeat (first | exact Part.nil _ | (apply Part.cons; with_reducible (first | exact P0 | exact P1 | exact P2 | exact P3 | exact P4 | exact P5 | exact P6 | exact P7 | exact P8 | exact P9 | exact P10 | exact P11 | exact P12 | exact P13 | exact P14 | exact P15 | exact P16 | exact P17 | exact P18 | exact P19 | exact P20 | exact P21 | exact P22 | exact P23)) | (apply Part.flat; simp only [List.cons_append, List.nil_append]) | (apply Part.cons; (first | exact P0 | exact P1 | exact P2 | exact P3 | exact P4 | exact P5 | exact P6 | exact P7 | exact P8 | exact P9 | exact P10 | exact P11 | exact P12 | exact P13 | exact P14 | exact P15 | exact P16 | exact P17 | exact P18 | exact P19 | exact P20 | exact P21 | exact P22 | exact P23)) | (apply Part.nilc))) ?_)
                                        rintro v post H' ⟨rfl, sg9, hM9, rfl⟩ hH
                                        try simp only [List.cons_append, List.nil_append] at hH
                                        subst hH
                                        refine SPO_nil ?_
                                        refine inBlockP_n ?_
                                        refine bodyP_end (H' := [sg9]) (Res0 rfl) (by repeat (first | exact Part.nil _ | (apply Part.cons; with_reducible (first | exact P0 | exact P1 | exact P2 | exact P3 | exact P4 | exact P5 | exact P6 | exact P7 | exact P8 | exact P9 | exact P10 | exact P11 | exact P12 | exact P13 | exact P14 | exact P15 | exact P16 | exact P17 | exact P18 | exact P19 | exact P20 | exact P21 | exact P22 | exact P23)) | (apply Part.flat; simp only [List.cons_append, List.nil_append]) | (apply Part.cons; (first | exact P0 | exact P1 | exact P2 | exact P3 | exact P4 | exact P5 | exact P6 | exact P7 | exact P8 | exact P9 | exact P10 | exact P11 | exact P12 | exact P13 | exact P14 | exact P15 | exact P16 | exact P17 | exact P18 | exact P19 | exact P20 | exact P21 | exact P22 | exact P23)) | (apply Part.nilc))) ?_
                                        exact ⟨rfl, (eb ++ [b486]), hb, _, ⟨List.prefix_append _ _, List.prefix_refl _⟩, hM9, rfl⟩
                                    · try dsimp only [cond_true, cond_false, Bool.true_or, Bool.false_or] at hP
                                      refine SPO_p rfl (y_assign rfl) rfl ?_
                                      refine SPO_nil ?_
                                      refine thenP_n ?_
                                      refine SP_seq ?_
                                      refine SP_region ?_
                                      refine SPL_y (y_assign rfl) rfl ?_
                                      refine SPL_nil ?_
                                      refine thenP_n ?_
                                      refine SP_mid (G := Bool) (fun on => [(0, ptr x.b), (2, ptr (hb.getD c 0)), (3, ptr b3), (4, ptr b4), (21, I (m0.ths[c].vals.length : Int)), (23, .bool on)]) (fun _ => [sg0, blk b3 206 (tskV eb q), blk b4 158 (ndV d)]) (fun on => (if on = false then rcutV 3 m0 else bind1 (rdo 17 q.n 0 q.e m0) fun m1 => bind2 (newE d.s va q.e m1) fun i m2 => rdo 1 d.b 0 (some i) m2) = some m') ?_ ?_
                                      · refine SP_seq ?_
                                        refine SP_region ?_
                                        refine SPL_y (y_move rfl) rfl ?_
                                        refine SPL_nil ?_
                                        refine thenP_n ?_
                                        refine SP_cond_t rfl ?_
                                        rw [if_pos rfl] at hP
                                        refine SP_draw 22 [(0, 0), (1, 0), (2, 0), (4, 0), (5, 0), (6, 0), (8, 0), (9, 0), (13, 0), (14, 0), (15, 0), (17, 0), (18, 0), (3, 1), (7, 1), (10, 0), (11, 0), (12, 1), (16, 1), (19, 0), (20, 0), (21, 1), (22, 3), (23, 0)] mixed (by kernel_rfl) (fun _ _ _ _ _ h => h) (Part.refl _) ?_
                                        refine SPO_p rfl (y_move rfl) rfl ?_
                                        refine SPO_p rfl (y_nil rfl) rfl ?_
                                        refine SPO_p rfl (y_fa fld_142_0 rfl) rfl ?_
                                        refine SPO_p rfl (y_move rfl) rfl ?_
                                        refine SPO_p rfl (y_nil rfl) rfl ?_
                                        refine SPO_p rfl (y_fa fld_152_4 rfl) rfl ?_
                                        refine SPO_p rfl (y_move rfl) rfl ?_
                                        refine SPO_p rfl (y_sub rfl rfl (by omega)) rfl ?_
                                        rw [show ((m0.ths[c].vals.length : Nat) : Int) - 3 = ((m0.ths[c].vals.length - 3 : Nat) : Int) by omega]
                                        refine SPO_p rfl (y_move rfl) rfl ?_
                                        refine SPO_p rfl (y_nil rfl) rfl ?_
                                        refine SPO_p rfl (y_fa fld_152_4 rfl) rfl ?_
                                        refine SPO_p rfl (y_move rfl) rfl ?_
                                        refine SPO_p rfl (y_sub rfl rfl (by omega)) rfl ?_
                                        rw [show ((m0.ths[c].vals.length : Nat) : Int) - 2 = ((m0.ths[c].vals.length - 2 : Nat) : Int) by omega]
                                        refine SPO_h rfl (y_load Tryz.isAgg78 rfl (by repeat (first | exact hM0.cNum _ | apply Cell.tail))) rfl ?_
                                        refine SPO_h rfl (y_load Tryz.isAgg90 rfl (by repeat (first | exact hVs _ | apply Cell.tail))) rfl ?_
                                        refine SPO_p rfl (y_ia Tryz.underlying90 Tryz.sizeOf42 rfl rfl (by omega)) rfl ?_
                                        refine SPO_p rfl (y_fa fld_42_1 rfl) rfl ?_
                                        refine SPO_h rfl (y_load Tryz.isAgg40 rfl (by repeat (first | exact hNva _ | apply Cell.tail))) rfl ?_
                                        refine SPO_h rfl (y_load Tryz.isAgg90 rfl (by repeat (first | exact hVs _ | apply Cell.tail))) rfl ?_
                                        refine SPO_p rfl (y_ia Tryz.underlying90 Tryz.sizeOf42 rfl rfl (by omega)) rfl ?_
                                        refine SPO_p rfl (y_fa fld_42_1 rfl) rfl ?_
                                        refine SPO_h rfl (y_load Tryz.isAgg40 rfl (by repeat (first | exact hNvb _ | apply Cell.tail))) rfl ?_
                                        refine SPO_z (k := 0) rfl rfl (SP1_call (nm_Cmp _ 4 vak vbk hval hvbl) Tryz.call105 rfl rfl (by repeat (first | exact Part.nil _ | (apply Part.cons; with_reducible (first | exact P0 | exact P1 | exact P2 | exact P3 | exact P4 | exact P5 | exact P6 | exact P7 | exact P8 | exact P9 | exact P10 | exact P11 | exact P12 | exact P13 | exact P14 | exact P15 | exact P16 | exact P17 | exact P18 | exact P19 | exact P20 | exact P21 | exact P22 | exact P23)) | (apply Part.flat; simp only [List.cons_append, List.nil_append]) | (apply Part.cons; (first | exact P0 | exact P1 | exact P2 | exact P3 | exact P4 | exact P5 | exact P6 | exact P7 | exact P8 | exact P9 | exact P10 | exact P11 | exact P12 | exact P13 | exact P14 | exact P15 | exact P16 | exact P17 | exact P18 | exact P19 | exact P20 | exact P21 | exact P22 | exact P23)) | (apply Part.nilc))) ?_)
                                        rintro v post H' ⟨rfl, rfl⟩ hH
                                        try simp only [List.cons_append, List.nil_append] at hH
                                        subst hH
                                        generalize hon1 : cmpM 4 vak vbk = on1 at hP
                                        refine SPO_p rfl (y_assign rfl) rfl ?_
                                        refine SPO_nil ?_
                                        refine thenP_n ?_
                                        exact Mid.intro (on1) (hP) (by repeat (first | exact Sub.nil _ | refine Sub.cons rfl ?_)) (by repeat (first | exact Part.nil _ | (apply Part.cons; with_reducible (first | exact P0 | exact P1 | exact P2 | exact P3 | exact P4 | exact P5 | exact P6 | exact P7 | exact P8 | exact P9 | exact P10 | exact P11 | exact P12 | exact P13 | exact P14 | exact P15 | exact P16 | exact P17 | exact P18 | exact P19 | exact P20 | exact P21 | exact P22 | exact P23)) | (apply Part.flat; simp only [List.cons_append, List.nil_append]) | (apply Part.cons; (first | exact P0 | exact P1 | exact P2 | exact P3 | exact P4 | exact P5 | exact P6 | exact P7 | exact P8 | exact P9 | exact P10 | exact P11 | exact P12 | exact P13 | exact P14 | exact P15 | exact P16 | exact P17 | exact P18 | exact P19 | exact P20 | exact P21 | exact P22 | exact P23)) | (apply Part.nilc)))
                                      clear hP
                                      rintro on1 hP
                                      rcases on1 with _ | _
                                      · refine SP_seq ?_
                                        refine SP_seq ?_
                                        refine SP_region ?_
                                        refine SPL_y (y_move rfl) rfl ?_
                                        refine SPL_y (y_not_f rfl) rfl ?_
                                        refine SPL_nil ?_
                                        refine thenP_n ?_
                                        refine SP_cond_t rfl ?_
                                        refine SP_seq ?_
                                        rw [if_pos rfl] at hP
                                        obtain rfl := rcutV_some hP hcc hc
                                        obtain ⟨ca, cc, hk, hc', hsp, s0, s1, s2, s3, s4, sX, sA, sZ, R, ta, tc, va, vc, sa, sv, rfl, hstk, hhl, hTA, hVA, hTS, hput⟩ := isRm_open hM0 hc
                                        refine SP_openAt [blk x.b 142 [ptr x.nb, ptr x.tb, Value.slice x.na m0.nodes.length x.nc, I m0.root, Value.slice ca m0.clos.length cc, Value.slice (some ⟨hk, 0, none⟩) m0.ths.length hc', I s0, I s1, I s2, I s3, I s4, I m0.sp, I m0.cur, I m0.fuel, I m0.first, S m0.out, .bool m0.done, I m0.ans.e, I m0.ans.n, I m0.ans.m, S m0.ans.s, S m0.ans.t], sX, blk hk 149 (hb.map ptr ++ hsp), sA, List.flatten [blk (hb.getD c 0) 152 [I m0.ths[c].st, I m0.ths[c].fn, I (m0.ths[c].depth), Value.slice ta (m0.ths[c].tasks.length) tc, Value.slice va (m0.ths[c].vals.length) vc], sa, sv], sZ, R] (by first | exact P0 | exact P1 | exact P2 | exact P3 | exact P4 | exact P5 | exact P6 | exact P7 | exact P8 | exact P9 | exact P10 | exact P11 | exact P12 | exact P13 | exact P14 | exact P15 | exact P16 | exact P17 | exact P18 | exact P19 | exact P20 | exact P21 | exact P22 | exact P23) ?_
                                        simp only [List.cons_append, List.nil_append]
                                        refine SP_openAt [blk (hb.getD c 0) 152 [I m0.ths[c].st, I m0.ths[c].fn, I (m0.ths[c].depth), Value.slice ta (m0.ths[c].tasks.length) tc, Value.slice va (m0.ths[c].vals.length) vc], sa, sv] (by first | exact P0 | exact P1 | exact P2 | exact P3 | exact P4 | exact P5 | exact P6 | exact P7 | exact P8 | exact P9 | exact P10 | exact P11 | exact P12 | exact P13 | exact P14 | exact P15 | exact P16 | exact P17 | exact P18 | exact P19 | exact P20 | exact P21 | exact P22 | exact P23) ?_
                                        simp only [List.cons_append, List.nil_append]
                                        have hcell : ∀ H : Hp, Cell (blk hk 149 (hb.map ptr ++ hsp) :: H) hk (0 + ((c : Nat) : Int).toNat * 1) (ptr (hb.getD c 0)) := fun H => Cell.head (hb_at hhl hc)
                                        rw [hcc]
                                        have hvle := hVA.mle
                                        refine SP_region ?_
                                        refine SPL_y (y_move rfl) rfl ?_
                                        refine SPL_y (y_move rfl) rfl ?_
                                        refine SPL_y (y_nil rfl) rfl ?_
                                        refine SPL_y (y_fa fld_152_4 rfl) rfl ?_
                                        refine SPL_y (y_load Tryz.isAgg90 rfl (by repeat (first | exact Cell.amid hpre rfl | exact Cell.head rfl | apply Cell.tail))) rfl ?_
                                        refine SPL_y (y_move rfl) rfl ?_
                                        refine SPL_y (y_sub rfl rfl (by omega)) rfl ?_
                                        rw [show ((m0.ths[c].vals.length : Nat) : Int) - 3 = ((m0.ths[c].vals.length - 3 : Nat) : Int) by omega]
                                        refine SPL_y (y_cut hVA Tryz.underlying90 Tryz.sizeOf42 rfl rfl (by omega)) rfl ?_
                                        refine SPL_y (y_nil rfl) rfl ?_
                                        refine SPL_y (y_fa fld_152_4 rfl) rfl ?_
                                        refine SPL_one rfl (SP1_store Tryz.sizeOf90 rfl rfl rfl (by first | exact U0 | exact U1 | exact U2 | exact U3 | exact U4 | exact U5 | exact U6 | exact U7 | exact U8 | exact U9 | exact U10 | exact U11 | exact U12 | exact U13 | exact U14 | exact U15 | exact U16 | exact U17 | exact U18 | exact U19 | exact U20 | exact U21 | exact U22 | exact U23) (by rfl) ?_)
                                        refine SPL_nil ?_
                                        refine thenP_n ?_
                                        refine SP_ret ?_
                                        refine thenP_ret (inBlockP_ret (bodyP_ret (H' := [List.flatten [blk x.b 142 [ptr x.nb, ptr x.tb, Value.slice x.na m0.nodes.length x.nc, I m0.root, Value.slice ca m0.clos.length cc, Value.slice (some ⟨hk, 0, none⟩) m0.ths.length hc', I s0, I s1, I s2, I s3, I s4, I m0.sp, I (c : Int), I m0.fuel, I m0.first, S m0.out, .bool m0.done, I m0.ans.e, I m0.ans.n, I m0.ans.m, S m0.ans.s, S m0.ans.t], sX, blk hk 149 (hb.map ptr ++ hsp), sA, List.flatten [blk (hb.getD c 0) 152 [I m0.ths[c].st, I m0.ths[c].fn, I (m0.ths[c].depth), Value.slice ta (m0.ths[c].tasks.length) tc, Value.slice va (m0.ths[c].vals.length - 3) vc], sa, sv], sZ, R]]) (Res0 rfl) (by repeat (first | exact Part.nil _ | (apply Part.cons; with_reducible (first | exact P0 | exact P1 | exact P2 | exact P3 | exact P4 | exact P5 | exact P6 | exact P7 | exact P8 | exact P9 | exact P10 | exact P11 | exact P12 | exact P13 | exact P14 | exact P15 | exact P16 | exact P17 | exact P18 | exact P19 | exact P20 | exact P21 | exact P22 | exact P23)) | (apply Part.flat; simp only [List.cons_append, List.nil_append]) | (apply Part.cons; (first | exact P0 | exact P1 | exact P2 | exact P3 | exact P4 | exact P5 | exact P6 | exact P7 | exact P8 | exact P9 | exact P10 | exact P11 | exact P12 | exact P13 | exact P14 | exact P15 | exact P16 | exact P17 | exact P18 | exact P19 | exact P20 | exact P21 | exact P22 | exact P23)) | (apply Part.nilc))) ?_))
                                        refine ⟨rfl, eb, hb, _, Gr.refl _ _, hput (rset m0 { m0.ths[c] with vals := m0.ths[c].vals.take (m0.ths[c].vals.length - 3) }) s0 s1 s2 s3 s4 ({ m0.ths[c] with vals := m0.ths[c].vals.take (m0.ths[c].vals.length - 3) }) ta tc va vc sa sv (m0.ths[c].tasks.length) (m0.ths[c].vals.length - 3) rfl rfl rfl ?_ rfl rfl hstk rfl (by simp) (hTA) ((by have := hVA.cut (j := m0.ths[c].vals.length - 3) (by omega); rwa [flat_tk1 valV_len] at this)) (hTS), ?_⟩
                                        · unfold rset; rw [hcc]; rfl
                                        · rw [← hcc]; rfl
                                      · refine SP_seq ?_
                                        refine SP_seq ?_
                                        refine SP_region ?_
                                        refine SPL_y (y_move rfl) rfl ?_
                                        refine SPL_y (y_not_t rfl) rfl ?_
                                        refine SPL_nil ?_
                                        refine thenP_n ?_
                                        refine SP_cond_f rfl ?_
                                        refine SP_skip ?_
                                        refine thenP_n ?_
                                        refine SP_seq ?_
                                        rw [if_neg (by decide)] at hP
                                        refine SP_region ?_
                                        refine SPL_y (y_move rfl) rfl ?_
                                        refine SPL_y (y_fa fld_206_1 rfl) rfl ?_
                                        refine SPL_y (y_load Tryz.isAgg3 rfl (by repeat (first | exact Cell.amid hpre rfl | exact Cell.head rfl | apply Cell.tail))) rfl ?_
                                        refine SPL_y (y_fa fld_206_3 rfl) rfl ?_
                                        refine SPL_y (y_load Tryz.isAgg146 rfl (by repeat (first | exact Cell.amid hpre rfl | exact Cell.head rfl | apply Cell.tail))) rfl ?_
                                        obtain ⟨m1, hq1, hP⟩ := bnd1 hP
                                        refine SPL_one rfl (SP1_call (cm_do x eb hb hq1 _ hM0) Tryz.call95 rfl rfl (by repeat (first | exact Part.nil _ | (apply Part.cons; with_reducible (first | exact P0 | exact P1 | exact P2 | exact P3 | exact P4 | exact P5 | exact P6 | exact P7 | exact P8 | exact P9 | exact P10 | exact P11 | exact P12 | exact P13 | exact P14 | exact P15 | exact P16 | exact P17 | exact P18 | exact P19 | exact P20 | exact P21 | exact P22 | exact P23)) | (apply Part.flat; simp only [List.cons_append, List.nil_append]) | (apply Part.cons; (first | exact P0 | exact P1 | exact P2 | exact P3 | exact P4 | exact P5 | exact P6 | exact P7 | exact P8 | exact P9 | exact P10 | exact P11 | exact P12 | exact P13 | exact P14 | exact P15 | exact P16 | exact P17 | exact P18 | exact P19 | exact P20 | exact P21 | exact P22 | exact P23)) | (apply Part.nilc))) ?_)
                                        rintro v post H' ⟨rfl, sg1, hM1, rfl⟩ hH
                                        try simp only [List.cons_append, List.nil_append] at hH
                                        subst hH
                                        refine SPL_nil ?_
                                        refine thenP_n ?_
                                        obtain ⟨hc1, hcc1, hvv⟩ := rdo_thr hq1 hcc hc
                                        obtain ⟨vk1, vc1, hVs1, hVc1⟩ := hM1.topsE hc1 hvv (by omega)
                                        have hCva1 : ∀ H : Hp, Cells (sg1 :: H) vk1 (0 + ((m0.ths[c].vals.length - 3 : Nat) : Int).toNat * 3) (valV va) := fun H => by have := hVc1 _ hiva H; rwa [hxva] at this
                                        refine SP_draw 17 [(0, 0), (1, 0), (3, 0), (5, 0), (6, 0), (7, 0), (9, 0), (10, 0), (13, 0), (2, 1), (4, 1), (8, 1), (11, 0), (12, 1), (14, 1), (15, 0), (16, 2), (17, 3)] mixed (by kernel_rfl) (fun _ _ _ _ _ h => h) (Part.refl _) ?_
                                        refine SPO_p rfl (y_move rfl) rfl ?_
                                        refine SPO_p rfl (y_fa fld_158_2 rfl) rfl ?_
                                        refine SPO_p rfl (y_fa fld_158_6 rfl) rfl ?_
                                        refine SPO_p rfl (y_move rfl) rfl ?_
                                        refine SPO_p rfl (y_nil rfl) rfl ?_
                                        refine SPO_p rfl (y_fa fld_152_4 rfl) rfl ?_
                                        refine SPO_p rfl (y_move rfl) rfl ?_
                                        refine SPO_p rfl (y_sub rfl rfl (by omega)) rfl ?_
                                        rw [show ((m0.ths[c].vals.length : Nat) : Int) - 3 = ((m0.ths[c].vals.length - 3 : Nat) : Int) by omega]
                                        refine SPO_p rfl (y_fa fld_206_3 rfl) rfl ?_
                                        refine SPO_h rfl (y_load Tryz.isAgg3 rfl (by repeat (first | exact Cell.amid hpre rfl | exact Cell.head rfl | apply Cell.tail))) rfl ?_
                                        refine SPO_h rfl (y_load Tryz.isAgg9 rfl (by repeat (first | exact Cell.amid hpre rfl | exact Cell.head rfl | apply Cell.tail))) rfl ?_
                                        refine SPO_h rfl (y_load Tryz.isAgg90 rfl (by repeat (first | exact hVs1 _ | apply Cell.tail))) rfl ?_
                                        refine SPO_p rfl (y_ia Tryz.underlying90 Tryz.sizeOf42 rfl rfl (by omega)) rfl ?_
                                        refine SPO_h rfl (y_loads Tryz.isAgg42 Tryz.sizeOf42 rfl rfl (by repeat (first | exact hCva1 _ | apply Cells.tail))) rfl ?_
                                        refine SPO_h rfl (y_load Tryz.isAgg146 rfl (by repeat (first | exact Cell.amid hpre rfl | exact Cell.head rfl | apply Cell.tail))) rfl ?_
                                        refine SPO_p rfl (y_buildN (l := [S d.s, I va.t, .int .u64 va.n, S va.s, ePt eb q.e]) BN204 rfl (fill_env3 _ va _)) rfl ?_
                                        refine SPO_a rfl rfl (SP1_box rfl rfl rfl ?_)
                                        intro b486
                                        refine ⟨⟨_, (by repeat (first | exact Part.nil _ | (apply Part.cons; with_reducible (first | exact P0 | exact P1 | exact P2 | exact P3 | exact P4 | exact P5 | exact P6 | exact P7 | exact P8 | exact P9 | exact P10 | exact P11 | exact P12 | exact P13 | exact P14 | exact P15 | exact P16 | exact P17 | exact P18 | exact P19 | exact P20 | exact P21 | exact P22 | exact P23)) | (apply Part.flat; simp only [List.cons_append, List.nil_append]) | (apply Part.cons; (first | exact P0 | exact P1 | exact P2 | exact P3 | exact P4 | exact P5 | exact P6 | exact P7 | exact P8 | exact P9 | exact P10 | exact P11 | exact P12 | exact P13 | exact P14 | exact P15 | exact P16 | exact P17 | exact P18 | exact P19 | exact P20 | exact P21 | exact P22 | exact P23)) | (apply Part.nilc)))⟩, ?_⟩
                                        obtain ⟨i2, m2, hq2, hP⟩ := bnd2 hP
                                        obtain ⟨rfl, rfl, hes2⟩ := newE_some hq2
                                        have hel2 := hM1.sc.el
                                        obtain ⟨sg2, hM2, hpt2⟩ := isRm_new hM1 b486 (e := ⟨d.s, va, q.e⟩) (fun i hi => by rw [hel2]; exact hes2 i hi)
                                        refine SPO_part (H' := [sg1, blk b486 204 (evV eb ⟨d.s, va, q.e⟩), blk b3 206 (tskV eb q), blk b4 158 (ndV d)]) (by repeat (first | exact Part.nil _ | (apply Part.cons; with_reducible (first | exact P0 | exact P1 | exact P2 | exact P3 | exact P4 | exact P5 | exact P6 | exact P7 | exact P8 | exact P9 | exact P10 | exact P11 | exact P12 | exact P13 | exact P14 | exact P15 | exact P16 | exact P17 | exact P18 | exact P19 | exact P20 | exact P21 | exact P22 | exact P23)) | (apply Part.flat; simp only [List.cons_append, List.nil_append]) | (apply Part.cons; (first | exact P0 | exact P1 | exact P2 | exact P3 | exact P4 | exact P5 | exact P6 | exact P7 | exact P8 | exact P9 | exact P10 | exact P11 | exact P12 | exact P13 | exact P14 | exact P15 | exact P16 | exact P17 | exact P18 | exact P19 | exact P20 | exact P21 | exact P22 | exact P23)) | (apply Part.nilc))) ?_
                                        refine SPO_part (hpt2 [blk b3 206 (tskV eb q), blk b4 158 (ndV d)]) ?_
                                        rw [newPt (eb := eb) hel2]
                                        refine SPO_z (k := 0) rfl rfl (SP1_call (cm_do x (eb ++ [b486]) hb hP _ hM2) Tryz.call95 rfl rfl (by repeat (first | exact Part.nil _ | (apply Part.cons; with_reducible (first | exact P0 | exact P1 | exact P2 | exact P3 | exact P4 | exact P5 | exact P6 | exact P7 | exact P8 | exact P9 | exact P10 | exact P11 | exact P12 | exact P13 | exact P14 | exact P15 | exact P16 | exact P17 | exact P18 | exact P19 | exact P20 | exact P21 | exact P22 | exact P23)) | (apply Part.flat; simp only [List.cons_append, List.nil_append]) | (apply Part.cons; (first | exact P0 | exact P1 | exact P2 | exact P3 | exact P4 | exact P5 | exact P6 | exact P7 | exact P8 | exact P9 | exact P10 | exact P11 | exact P12 | exact P13 | exact P14 | exact P15 | exact P16 | exact P17 | exact P18 | exact P19 | exact P20 | exact P21 | exact P22 | exact P23)) | (apply Part.nilc))) ?_)
                                        rintro v post H' ⟨rfl, sg9, hM9, rfl⟩ hH
                                        try simp only [List.cons_append, List.nil_append] at hH
                                        subst hH
                                        refine SPO_nil ?_
                                        refine inBlockP_n ?_
                                        refine bodyP_end (H' := [sg9]) (Res0 rfl) (by repeat (first | exact Part.nil _ | (apply Part.cons; with_reducible (first | exact P0 | exact P1 | exact P2 | exact P3 | exact P4 | exact P5 | exact P6 | exact P7 | exact P8 | exact P9 | exact P10 | exact P11 | exact P12 | exact P13 | exact P14 | exact P15 | exact P16 | exact P17 | exact P18 | exact P19 | exact P20 | exact P21 | exact P22 | exact P23)) | (apply Part.flat; simp only [List.cons_append, List.nil_append]) | (apply Part.cons; (first | exact P0 | exact P1 | exact P2 | exact P3 | exact P4 | exact P5 | exact P6 | exact P7 | exact P8 | exact P9 | exact P10 | exact P11 | exact P12 | exact P13 | exact P14 | exact P15 | exact P16 | exact P17 | exact P18 | exact P19 | exact P20 | exact P21 | exact P22 | exact P23)) | (apply Part.nilc))) ?_
                                        exact ⟨rfl, (eb ++ [b486]), hb, _, ⟨List.prefix_append _ _, List.prefix_refl _⟩, hM9, rfl⟩
                                intro h67_0
                                first | rw [if_neg h67_0] at hP | rw [if_pos (Decidable.not_not.1 h67_0)] at hP | skip
                                as_aux_lemma =>
                                  refine SPL_y (y_assign rfl) rfl ?_
                                  refine SPL_nil ?_
                                  refine thenP_n ?_
                                  refine SP_cond_f rfl ?_
                                  refine SP_seq ?_
                                  refine SP_region ?_
                                  refine SPL_if (y_eql rfl rfl) rfl ?_ ?_
                                  · intro h78_0
                                    first | rw [if_pos h78_0] at hP | rw [if_neg h78_0] at hP | skip
                                    as_aux_lemma =>
                                      refine SPL_y (y_assign rfl) rfl ?_
                                      refine SPL_nil ?_
                                      refine thenP_n ?_
                                      refine SP_cond_t rfl ?_
                                      refine SP_seq ?_
                                      have hcc := hcc0
                                      have hc := hc0
                                      have hg2 := hg0
                                      unfold k17 at hP
                                      obtain ⟨va, hvva, hP⟩ := bnd1 hP
                                      obtain ⟨⟨_, hvkva, hvlva⟩, hiva, hxva⟩ := vTop_some hvva hcc hc
                                      obtain ⟨ve, hvve, hP⟩ := bnd1 hP
                                      obtain ⟨⟨_, hvkve, hvlve⟩, hive, hxve⟩ := vTop_some hvve hcc hc
                                      have hr2 : numR va = true ∧ numR ve = true := Decidable.byContradiction fun z => by rw [if_neg z] at hP; cases hP
                                      rw [if_pos hr2] at hP
                                      obtain ⟨hrva, hrve⟩ := hr2
                                      obtain ⟨vak, hvak, hval⟩ := numR_k hrva
                                      obtain ⟨vek, hvek, hvel⟩ := numR_k hrve
                                      rw [hvak, hvek, Int.toNat_natCast, Int.toNat_natCast] at hP
                                      obtain ⟨m1, hq1, hP⟩ := bnd1 hP
                                      obtain rfl := rputV_some hq1 hcc hc
                                      obtain ⟨ca, cc, hk, hc', hsp, s0, s1, s2, s3, s4, sX, sA, sZ, R, ta, tc, va, vc, sa, sv, rfl, hstk, hhl, hTA, hVA, hTS, hput⟩ := isRm_open hM0 hc
                                      refine SP_openAt [blk x.b 142 [ptr x.nb, ptr x.tb, Value.slice x.na m0.nodes.length x.nc, I m0.root, Value.slice ca m0.clos.length cc, Value.slice (some ⟨hk, 0, none⟩) m0.ths.length hc', I s0, I s1, I s2, I s3, I s4, I m0.sp, I m0.cur, I m0.fuel, I m0.first, S m0.out, .bool m0.done, I m0.ans.e, I m0.ans.n, I m0.ans.m, S m0.ans.s, S m0.ans.t], sX, blk hk 149 (hb.map ptr ++ hsp), sA, List.flatten [blk (hb.getD c 0) 152 [I m0.ths[c].st, I m0.ths[c].fn, I (m0.ths[c].depth), Value.slice ta (m0.ths[c].tasks.length) tc, Value.slice va (m0.ths[c].vals.length) vc], sa, sv], sZ, R] (by first | exact P0 | exact P1 | exact P2 | exact P3 | exact P4 | exact P5 | exact P6 | exact P7 | exact P8 | exact P9 | exact P10 | exact P11 | exact P12 | exact P13 | exact P14 | exact P15 | exact P16 | exact P17 | exact P18 | exact P19 | exact P20 | exact P21 | exact P22 | exact P23) ?_
                                      simp only [List.cons_append, List.nil_append]
                                      refine SP_openAt [blk (hb.getD c 0) 152 [I m0.ths[c].st, I m0.ths[c].fn, I (m0.ths[c].depth), Value.slice ta (m0.ths[c].tasks.length) tc, Value.slice va (m0.ths[c].vals.length) vc], sa, sv] (by first | exact P0 | exact P1 | exact P2 | exact P3 | exact P4 | exact P5 | exact P6 | exact P7 | exact P8 | exact P9 | exact P10 | exact P11 | exact P12 | exact P13 | exact P14 | exact P15 | exact P16 | exact P17 | exact P18 | exact P19 | exact P20 | exact P21 | exact P22 | exact P23) ?_
                                      simp only [List.cons_append, List.nil_append]
                                      have hcell : ∀ H : Hp, Cell (blk hk 149 (hb.map ptr ++ hsp) :: H) hk (0 + ((c : Nat) : Int).toNat * 1) (ptr (hb.getD c 0)) := fun H => Cell.head (hb_at hhl hc)
                                      rw [hcc]
                                      obtain ⟨vk, vsp, rfl, hvc, hvsp, rfl⟩ := hVA.row (by omega)
                                      have hCva : ∀ H : Hp, Cells (blk vk 42 (m0.ths[c].vals.flatMap valV ++ vsp) :: H) vk (0 + ((m0.ths[c].vals.length - 3 : Nat) : Int).toNat * 3) (valV va) := fun H => flat_cellsE valV_len rfl hiva hxva
                                      have hNva : ∀ H : Hp, Cell (blk vk 42 (m0.ths[c].vals.flatMap valV ++ vsp) :: H) vk (0 + ((m0.ths[c].vals.length - 3 : Nat) : Int).toNat * 3 + 1) (.int .u64 (vak : Int)) := fun H => by have := (hCva H).cell (j := 1) (v := .int .u64 va.n) rfl; rwa [hvak] at this
                                      have hCve : ∀ H : Hp, Cells (blk vk 42 (m0.ths[c].vals.flatMap valV ++ vsp) :: H) vk (0 + ((m0.ths[c].vals.length - 1 : Nat) : Int).toNat * 3) (valV ve) := fun H => flat_cellsE valV_len rfl hive hxve
                                      have hNve : ∀ H : Hp, Cell (blk vk 42 (m0.ths[c].vals.flatMap valV ++ vsp) :: H) vk (0 + ((m0.ths[c].vals.length - 1 : Nat) : Int).toNat * 3 + 1) (.int .u64 (vek : Int)) := fun H => by have := (hCve H).cell (j := 1) (v := .int .u64 ve.n) rfl; rwa [hvek] at this
                                      refine SP_region ?_
                                      refine SPL_y (y_move rfl) rfl ?_
                                      refine SPL_y (y_nil rfl) rfl ?_
                                      refine SPL_y (y_fa fld_152_4 rfl) rfl ?_
                                      refine SPL_y (y_load Tryz.isAgg90 rfl (by repeat (first | exact Cell.amid hpre rfl | exact Cell.head rfl | apply Cell.tail))) rfl ?_
                                      refine SPL_y (y_len_l Tryz.underlying90 rfl) rfl ?_
                                      refine SPL_y (y_assign rfl) rfl ?_
                                      refine SPL_nil ?_
                                      refine thenP_n ?_
                                      refine SP_seq ?_
                                      refine SP_draw 31 [(0, 0), (1, 0), (2, 0), (4, 0), (5, 0), (6, 0), (7, 0), (8, 0), (10, 0), (11, 0), (12, 0), (14, 0), (15, 0), (19, 0), (20, 0), (21, 0), (23, 0), (24, 0), (3, 1), (9, 1), (13, 1), (16, 0), (17, 0), (18, 1), (22, 1), (25, 0), (26, 0), (27, 1), (28, 2), (29, 0), (30, 0), (31, 3)] mixed (by kernel_rfl) (fun _ _ _ _ _ h => h) (Part.refl _) ?_
                                      refine SPO_p rfl (y_move rfl) rfl ?_
                                      refine SPO_p rfl (y_nil rfl) rfl ?_
                                      refine SPO_p rfl (y_fa fld_152_4 rfl) rfl ?_
                                      refine SPO_p rfl (y_move rfl) rfl ?_
                                      refine SPO_p rfl (y_sub rfl rfl (by omega)) rfl ?_
                                      rw [show ((m0.ths[c].vals.length : Nat) : Int) - 3 = ((m0.ths[c].vals.length - 3 : Nat) : Int) by omega]
                                      refine SPO_p rfl (y_move rfl) rfl ?_
                                      refine SPO_p rfl (y_nil rfl) rfl ?_
                                      refine SPO_p rfl (y_fa fld_142_0 rfl) rfl ?_
                                      refine SPO_p rfl (y_move rfl) rfl ?_
                                      refine SPO_p rfl (y_nil rfl) rfl ?_
                                      refine SPO_p rfl (y_fa fld_152_4 rfl) rfl ?_
                                      refine SPO_p rfl (y_move rfl) rfl ?_
                                      refine SPO_p rfl (y_sub rfl rfl (by omega)) rfl ?_
                                      rw [show ((m0.ths[c].vals.length : Nat) : Int) - 3 = ((m0.ths[c].vals.length - 3 : Nat) : Int) by omega]
                                      refine SPO_p rfl (y_move rfl) rfl ?_
                                      refine SPO_p rfl (y_nil rfl) rfl ?_
                                      refine SPO_p rfl (y_fa fld_152_4 rfl) rfl ?_
                                      refine SPO_p rfl (y_move rfl) rfl ?_
                                      refine SPO_p rfl (y_sub rfl rfl (by omega)) rfl ?_
                                      rw [show ((m0.ths[c].vals.length : Nat) : Int) - 1 = ((m0.ths[c].vals.length - 1 : Nat) : Int) by omega]
                                      refine SPO_h rfl (y_load Tryz.isAgg90 rfl (by repeat (first | exact Cell.amid hpre rfl | exact Cell.head rfl | apply Cell.tail))) rfl ?_
                                      refine SPO_h rfl (y_load Tryz.isAgg78 rfl (by repeat (first | exact Cell.amid hpre rfl | exact Cell.head rfl | apply Cell.tail))) rfl ?_
                                      refine SPO_h rfl (y_load Tryz.isAgg90 rfl (by repeat (first | exact Cell.amid hpre rfl | exact Cell.head rfl | apply Cell.tail))) rfl ?_
                                      refine SPO_p rfl (y_ia Tryz.underlying90 Tryz.sizeOf42 rfl rfl (by omega)) rfl ?_
                                      refine SPO_p rfl (y_fa fld_42_1 rfl) rfl ?_
                                      refine SPO_h rfl (y_load Tryz.isAgg40 rfl (by repeat (first | exact hNva _ | apply Cell.tail))) rfl ?_
                                      refine SPO_h rfl (y_load Tryz.isAgg90 rfl (by repeat (first | exact Cell.amid hpre rfl | exact Cell.head rfl | apply Cell.tail))) rfl ?_
                                      refine SPO_p rfl (y_ia Tryz.underlying90 Tryz.sizeOf42 rfl rfl (by omega)) rfl ?_
                                      refine SPO_p rfl (y_fa fld_42_1 rfl) rfl ?_
                                      refine SPO_h rfl (y_load Tryz.isAgg40 rfl (by repeat (first | exact hNve _ | apply Cell.tail))) rfl ?_
                                      refine SPO_a rfl rfl (SP1_call (nm_Arith _ 1 vak vek hval hvel) Tryz.call106 rfl rfl (by repeat (first | exact Part.nil _ | (apply Part.cons; with_reducible (first | exact P0 | exact P1 | exact P2 | exact P3 | exact P4 | exact P5 | exact P6 | exact P7 | exact P8 | exact P9 | exact P10 | exact P11 | exact P12 | exact P13 | exact P14 | exact P15 | exact P16 | exact P17 | exact P18 | exact P19 | exact P20 | exact P21 | exact P22 | exact P23)) | (apply Part.flat; simp only [List.cons_append, List.nil_append]) | (apply Part.cons; (first | exact P0 | exact P1 | exact P2 | exact P3 | exact P4 | exact P5 | exact P6 | exact P7 | exact P8 | exact P9 | exact P10 | exact P11 | exact P12 | exact P13 | exact P14 | exact P15 | exact P16 | exact P17 | exact P18 | exact P19 | exact P20 | exact P21 | exact P22 | exact P23)) | (apply Part.nilc))) ?_)
                                      rintro v post H' ⟨rfl, rfl⟩ hH
                                      try simp only [List.cons_append, List.nil_append] at hH
                                      subst hH
                                      refine ⟨⟨_, (by repeat (first | exact Part.nil _ | (apply Part.cons; with_reducible (first | exact P0 | exact P1 | exact P2 | exact P3 | exact P4 | exact P5 | exact P6 | exact P7 | exact P8 | exact P9 | exact P10 | exact P11 | exact P12 | exact P13 | exact P14 | exact P15 | exact P16 | exact P17 | exact P18 | exact P19 | exact P20 | exact P21 | exact P22 | exact P23)) | (apply Part.flat; simp only [List.cons_append, List.nil_append]) | (apply Part.cons; (first | exact P0 | exact P1 | exact P2 | exact P3 | exact P4 | exact P5 | exact P6 | exact P7 | exact P8 | exact P9 | exact P10 | exact P11 | exact P12 | exact P13 | exact P14 | exact P15 | exact P16 | exact P17 | exact P18 | exact P19 | exact P20 | exact P21 | exact P22 | exact P23)) | (apply Part.nilc)))⟩, ?_⟩
                                      refine SPO_p rfl (y_ia Tryz.underlying90 Tryz.sizeOf42 rfl rfl (by omega)) rfl ?_
                                      refine SPO_p rfl (y_fa fld_42_1 rfl) rfl ?_
                                      refine SPO_z (k := 0) rfl rfl (SP1_storeF (l := m0.ths[c].vals) (x := { va with n := ((arithT 1 vak vek : Nat) : Int) }) (j := ((m0.ths[c].vals.length - 3 : Nat) : Int)) valV_len Tryz.sizeOf40 rfl rfl rfl rfl hiva (by decide) (by rw [hxva]; rfl) (by first | exact U0 | exact U1 | exact U2 | exact U3 | exact U4 | exact U5 | exact U6 | exact U7 | exact U8 | exact U9 | exact U10 | exact U11 | exact U12 | exact U13 | exact U14 | exact U15 | exact U16 | exact U17 | exact U18 | exact U19 | exact U20 | exact U21 | exact U22 | exact U23) ?_)
                                      refine SPO_nil ?_
                                      refine thenP_n ?_
                                      refine SP_seq ?_
                                      have hM1 : isRm x eb hb (rset m0 { m0.ths[c] with vals := m0.ths[c].vals.set (m0.ths[c].vals.length - 3) { va with n := ((arithT 1 vak vek : Nat) : Int) } }) (List.flatten [blk x.b 142 [ptr x.nb, ptr x.tb, Value.slice x.na m0.nodes.length x.nc, I m0.root, Value.slice ca m0.clos.length cc, Value.slice (some ⟨hk, 0, none⟩) m0.ths.length hc', I s0, I s1, I s2, I s3, I s4, I m0.sp, I (c : Int), I m0.fuel, I m0.first, S m0.out, .bool m0.done, I m0.ans.e, I m0.ans.n, I m0.ans.m, S m0.ans.s, S m0.ans.t], sX, blk hk 149 (hb.map ptr ++ hsp), sA, List.flatten [blk (hb.getD c 0) 152 [I m0.ths[c].st, I m0.ths[c].fn, I (m0.ths[c].depth), Value.slice ta (m0.ths[c].tasks.length) tc, Value.slice (some ⟨vk, 0, none⟩) (m0.ths[c].vals.length) vc], sa, (blk vk 42 ((m0.ths[c].vals.set (m0.ths[c].vals.length - 3) { va with n := ((arithT 1 vak vek : Nat) : Int) }).flatMap valV ++ vsp))], sZ, R]) := by
                                        have := hput (rset m0 { m0.ths[c] with vals := m0.ths[c].vals.set (m0.ths[c].vals.length - 3) { va with n := ((arithT 1 vak vek : Nat) : Int) } }) s0 s1 s2 s3 s4 ({ m0.ths[c] with vals := m0.ths[c].vals.set (m0.ths[c].vals.length - 3) { va with n := ((arithT 1 vak vek : Nat) : Int) } }) ta tc (some ⟨vk, 0, none⟩) vc sa (blk vk 42 ((m0.ths[c].vals.set (m0.ths[c].vals.length - 3) { va with n := ((arithT 1 vak vek : Nat) : Int) }).flatMap valV ++ vsp)) (m0.ths[c].tasks.length) (m0.ths[c].vals.length) rfl rfl rfl ?_ rfl rfl hstk rfl (by simp) (hTA) ((Arr.mk (by rw [flat_len valV_len, List.length_set]) hvc hvsp)) (hTS)
                                        · rw [← hcc]; exact this
                                        · unfold rset; rw [hcc]; rfl
                                      refine SP_part (H' := [List.flatten [blk x.b 142 [ptr x.nb, ptr x.tb, Value.slice x.na m0.nodes.length x.nc, I m0.root, Value.slice ca m0.clos.length cc, Value.slice (some ⟨hk, 0, none⟩) m0.ths.length hc', I s0, I s1, I s2, I s3, I s4, I m0.sp, I (c : Int), I m0.fuel, I m0.first, S m0.out, .bool m0.done, I m0.ans.e, I m0.ans.n, I m0.ans.m, S m0.ans.s, S m0.ans.t], sX, blk hk 149 (hb.map ptr ++ hsp), sA, List.flatten [blk (hb.getD c 0) 152 [I m0.ths[c].st, I m0.ths[c].fn, I (m0.ths[c].depth), Value.slice ta (m0.ths[c].tasks.length) tc, Value.slice (some ⟨vk, 0, none⟩) (m0.ths[c].vals.length) vc], sa, (blk vk 42 ((m0.ths[c].vals.set (m0.ths[c].vals.length - 3) { va with n := ((arithT 1 vak vek : Nat) : Int) }).flatMap valV ++ vsp))], sZ, R], blk b3 206 (tskV eb q), blk b4 158 (ndV d)]) (by repeat (first | exact Part.nil _ | (apply Part.cons; with_reducible (first | exact P0 | exact P1 | exact P2 | exact P3 | exact P4 | exact P5 | exact P6 | exact P7 | exact P8 | exact P9 | exact P10 | exact P11 | exact P12 | exact P13 | exact P14 | exact P15 | exact P16 | exact P17 | exact P18 | exact P19 | exact P20 | exact P21 | exact P22 | exact P23)) | (apply Part.flat; simp only [List.cons_append, List.nil_append]) | (apply Part.cons; (first | exact P0 | exact P1 | exact P2 | exact P3 | exact P4 | exact P5 | exact P6 | exact P7 | exact P8 | exact P9 | exact P10 | exact P11 | exact P12 | exact P13 | exact P14 | exact P15 | exact P16 | exact P17 | exact P18 | exact P19 | exact P20 | exact P21 | exact P22 | exact P23)) | (apply Part.nilc))) ?_
                                      refine SP_region ?_
                                      refine SPL_y (y_move rfl) rfl ?_
                                      obtain ⟨ok, m2, hq2, hP⟩ := bnd2 hP
                                      refine SPL_one rfl (SP1_call (cm_burn x eb hb hq2 _ hM1) Tryz.call103 rfl rfl (by repeat (first | exact Part.nil _ | (apply Part.cons; with_reducible (first | exact P0 | exact P1 | exact P2 | exact P3 | exact P4 | exact P5 | exact P6 | exact P7 | exact P8 | exact P9 | exact P10 | exact P11 | exact P12 | exact P13 | exact P14 | exact P15 | exact P16 | exact P17 | exact P18 | exact P19 | exact P20 | exact P21 | exact P22 | exact P23)) | (apply Part.flat; simp only [List.cons_append, List.nil_append]) | (apply Part.cons; (first | exact P0 | exact P1 | exact P2 | exact P3 | exact P4 | exact P5 | exact P6 | exact P7 | exact P8 | exact P9 | exact P10 | exact P11 | exact P12 | exact P13 | exact P14 | exact P15 | exact P16 | exact P17 | exact P18 | exact P19 | exact P20 | exact P21 | exact P22 | exact P23)) | (apply Part.nilc))) ?_)
                                      rintro v post H' ⟨rfl, sg2, hM2, rfl⟩ hH
                                      rcases ok with _ | _
                                      · try simp only [List.cons_append, List.nil_append] at hH
                                        subst hH
                                        try dsimp only [cond_true, cond_false, Bool.true_or, Bool.false_or] at hP
                                        refine SPL_nil ?_
                                        refine thenP_n ?_
                                        refine SP_cond_f rfl ?_
                                        refine SP_skip ?_
                                        refine inBlockP_n ?_
                                        refine bodyP_end (H' := [sg2]) (Res0 rfl) (by repeat (first | exact Part.nil _ | (apply Part.cons; with_reducible (first | exact P0 | exact P1 | exact P2 | exact P3 | exact P4 | exact P5 | exact P6 | exact P7 | exact P8 | exact P9 | exact P10 | exact P11 | exact P12 | exact P13 | exact P14 | exact P15 | exact P16 | exact P17 | exact P18 | exact P19 | exact P20 | exact P21 | exact P22 | exact P23)) | (apply Part.flat; simp only [List.cons_append, List.nil_append]) | (apply Part.cons; (first | exact P0 | exact P1 | exact P2 | exact P3 | exact P4 | exact P5 | exact P6 | exact P7 | exact P8 | exact P9 | exact P10 | exact P11 | exact P12 | exact P13 | exact P14 | exact P15 | exact P16 | exact P17 | exact P18 | exact P19 | exact P20 | exact P21 | exact P22 | exact P23)) | (apply Part.nilc))) ?_
                                        rw [if_neg (by decide)] at hP
                                        injection hP with hP
                                        subst hP
                                        exact ⟨rfl, eb, hb, _, Gr.refl _ _, hM2, rfl⟩
                                      · try simp only [List.cons_append, List.nil_append] at hH
                                        subst hH
                                        try dsimp only [cond_true, cond_false, Bool.true_or, Bool.false_or] at hP
                                        refine SPL_nil ?_
                                        refine thenP_n ?_
                                        refine SP_cond_t rfl ?_
                                        rw [if_pos rfl] at hP
                                        refine SP_region ?_
                                        refine SPL_y (y_move rfl) rfl ?_
                                        refine SPL_y (y_fa fld_206_1 rfl) rfl ?_
                                        refine SPL_y (y_load Tryz.isAgg3 rfl (by repeat (first | exact Cell.amid hpre rfl | exact Cell.head rfl | apply Cell.tail))) rfl ?_
                                        refine SPL_y (y_fa fld_206_3 rfl) rfl ?_
                                        refine SPL_y (y_load Tryz.isAgg146 rfl (by repeat (first | exact Cell.amid hpre rfl | exact Cell.head rfl | apply Cell.tail))) rfl ?_
                                        refine SPL_one rfl (SP1_call (cm_do x eb hb hP _ hM2) Tryz.call95 rfl rfl (by repeat (first | exact Part.nil _ | (apply Part.cons; with_reducible (first | exact P0 | exact P1 | exact P2 | exact P3 | exact P4 | exact P5 | exact P6 | exact P7 | exact P8 | exact P9 | exact P10 | exact P11 | exact P12 | exact P13 | exact P14 | exact P15 | exact P16 | exact P17 | exact P18 | exact P19 | exact P20 | exact P21 | exact P22 | exact P23)) | (apply Part.flat; simp only [List.cons_append, List.nil_append]) | (apply Part.cons; (first | exact P0 | exact P1 | exact P2 | exact P3 | exact P4 | exact P5 | exact P6 | exact P7 | exact P8 | exact P9 | exact P10 | exact P11 | exact P12 | exact P13 | exact P14 | exact P15 | exact P16 | exact P17 | exact P18 | exact P19 | exact P20 | exact P21 | exact P22 | exact P23)) | (apply Part.nilc))) ?_)
                                        rintro v post H' ⟨rfl, sg9, hM9, rfl⟩ hH
                                        try simp only [List.cons_append, List.nil_append] at hH
                                        subst hH
                                        refine SPL_nil ?_
                                        refine inBlockP_n ?_
                                        refine bodyP_end (H' := [sg9]) (Res0 rfl) (by repeat (first | exact Part.nil _ | (apply Part.cons; with_reducible (first | exact P0 | exact P1 | exact P2 | exact P3 | exact P4 | exact P5 | exact P6 | exact P7 | exact P8 | exact P9 | exact P10 | exact P11 | exact P12 | exact P13 | exact P14 | exact P15 | exact P16 | exact P17 | exact P18 | exact P19 | exact P20 | exact P21 | exact P22 | exact P23)) | (apply Part.flat; simp only [List.cons_append, List.nil_append]) | (apply Part.cons; (first | exact P0 | exact P1 | exact P2 | exact P3 | exact P4 | exact P5 | exact P6 | exact P7 | exact P8 | exact P9 | exact P10 | exact P11 | exact P12 | exact P13 | exact P14 | exact P15 | exact P16 | exact P17 | exact P18 | exact P19 | exact P20 | exact P21 | exact P22 | exact P23)) | (apply Part.nilc))) ?_
                                        exact ⟨rfl, eb, hb, _, Gr.refl _ _, hM9, rfl⟩
                                  intro h78_0
                                  first | rw [if_neg h78_0] at hP | rw [if_pos (Decidable.not_not.1 h78_0)] at hP | skip
                                  as_aux_lemma =>
                                    refine SPL_y (y_assign rfl) rfl ?_
                                    refine SPL_nil ?_
                                    refine thenP_n ?_
                                    refine SP_cond_f rfl ?_
                                    refine SP_seq ?_
                                    refine SP_region ?_
                                    refine SPL_if (y_eql rfl rfl) rfl ?_ ?_
                                    · intro h83_0
                                      first | rw [if_pos h83_0] at hP | rw [if_neg h83_0] at hP | skip
                                      as_aux_lemma =>
                                        refine SPL_y (y_assign rfl) rfl ?_
                                        refine SPL_nil ?_
                                        refine thenP_n ?_
                                        refine SP_cond_t rfl ?_
                                        refine SP_seq ?_
                                        have hcc := hcc0
                                        have hc := hc0
                                        have hg2 := hg0
                                        unfold k18 at hP
                                        obtain ⟨va, hvva, hP⟩ := bnd1 hP
                                        obtain ⟨⟨_, hvkva, hvlva⟩, hiva, hxva⟩ := vTop_some hvva hcc hc
                                        obtain ⟨vk, vc, hVs, hVc⟩ := hM0.tops hc (by omega)
                                        have hCva : ∀ H : Hp, Cells (sg0 :: H) vk (0 + ((m0.ths[c].vals.length - 1 : Nat) : Int).toNat * 3) (valV va) := fun H => by have := hVc _ hiva H; rwa [hxva] at this
                                        have hTva : ∀ H : Hp, Cell (sg0 :: H) vk (0 + ((m0.ths[c].vals.length - 1 : Nat) : Int).toNat * 3 + 0) (I va.t) := fun H => (hCva H).cell (j := 0) rfl
                                        refine SP_region ?_
                                        refine SPL_y (y_move rfl) rfl ?_
                                        refine SPL_y (y_nil rfl) rfl ?_
                                        refine SPL_y (y_fa fld_152_4 rfl) rfl ?_
                                        refine SPL_y (y_load Tryz.isAgg90 rfl (by repeat (first | exact hVs _ | apply Cell.tail))) rfl ?_
                                        refine SPL_y (y_len_l Tryz.underlying90 rfl) rfl ?_
                                        refine SPL_y (y_assign rfl) rfl ?_
                                        refine SPL_nil ?_
                                        refine thenP_n ?_
                                        refine SP_seq ?_
                                        refine SP_seq ?_
                                        refine SP_region ?_
                                        refine SPL_y (y_move rfl) rfl ?_
                                        refine SPL_y (y_nil rfl) rfl ?_
                                        refine SPL_y (y_fa fld_152_4 rfl) rfl ?_
                                        refine SPL_y (y_load Tryz.isAgg90 rfl (by repeat (first | exact hVs _ | apply Cell.tail))) rfl ?_
                                        refine SPL_y (y_move rfl) rfl ?_
                                        refine SPL_y (y_sub rfl rfl (by omega)) rfl ?_
                                        rw [show ((m0.ths[c].vals.length : Nat) : Int) - 1 = ((m0.ths[c].vals.length - 1 : Nat) : Int) by omega]
                                        refine SPL_y (y_ia Tryz.underlying90 Tryz.sizeOf42 rfl rfl (by omega)) rfl ?_
                                        refine SPL_y (y_fa fld_42_0 rfl) rfl ?_
                                        refine SPL_y (y_load Tryz.isAgg3 rfl (by repeat (first | exact hTva _ | apply Cell.tail))) rfl ?_
                                        refine SPL_if (y_neq rfl rfl) rfl ?_ ?_
                                        · intro h85_9
                                          first | rw [if_pos h85_9] at hP | rw [if_neg h85_9] at hP | skip
                                          as_aux_lemma =>
                                            refine SPL_nil ?_
                                            refine thenP_n ?_
                                            refine SP_cond_t rfl ?_
                                            refine SP_seq ?_
                                            refine SP_region ?_
                                            refine SPL_y (y_move rfl) rfl ?_
                                            refine SPL_one rfl (SP1_call (cm_raise x eb hb hP _ hM0) Tryz.call104 rfl rfl (by repeat (first | exact Part.nil _ | (apply Part.cons; with_reducible (first | exact P0 | exact P1 | exact P2 | exact P3 | exact P4 | exact P5 | exact P6 | exact P7 | exact P8 | exact P9 | exact P10 | exact P11 | exact P12 | exact P13 | exact P14 | exact P15 | exact P16 | exact P17 | exact P18 | exact P19 | exact P20 | exact P21 | exact P22 | exact P23)) | (apply Part.flat; simp only [List.cons_append, List.nil_append]) | (apply Part.cons; (first | exact P0 | exact P1 | exact P2 | exact P3 | exact P4 | exact P5 | exact P6 | exact P7 | exact P8 | exact P9 | exact P10 | exact P11 | exact P12 | exact P13 | exact P14 | exact P15 | exact P16 | exact P17 | exact P18 | exact P19 | exact P20 | exact P21 | exact P22 | exact P23)) | (apply Part.nilc))) ?_)
                                            rintro v post H' ⟨rfl, sg9, hM9, rfl⟩ hH
                                            try simp only [List.cons_append, List.nil_append] at hH
                                            subst hH
                                            refine SPL_nil ?_
                                            refine thenP_n ?_
                                            refine SP_ret ?_
                                            refine thenP_ret (inBlockP_ret (bodyP_ret (H' := [sg9]) (Res0 rfl) (by repeat (first | exact Part.nil _ | (apply Part.cons; with_reducible (first | exact P0 | exact P1 | exact P2 | exact P3 | exact P4 | exact P5 | exact P6 | exact P7 | exact P8 | exact P9 | exact P10 | exact P11 | exact P12 | exact P13 | exact P14 | exact P15 | exact P16 | exact P17 | exact P18 | exact P19 | exact P20 | exact P21 | exact P22 | exact P23)) | (apply Part.flat; simp only [List.cons_append, List.nil_append]) | (apply Part.cons; (first | exact P0 | exact P1 | exact P2 | exact P3 | exact P4 | exact P5 | exact P6 | exact P7 | exact P8 | exact P9 | exact P10 | exact P11 | exact P12 | exact P13 | exact P14 | exact P15 | exact P16 | exact P17 | exact P18 | exact P19 | exact P20 | exact P21 | exact P22 | exact P23)) | (apply Part.nilc))) ?_))
                                            exact ⟨rfl, eb, hb, _, Gr.refl _ _, hM9, rfl⟩
                                        intro h85_9
                                        first | rw [if_neg h85_9] at hP | rw [if_pos (Decidable.not_not.1 h85_9)] at hP | skip
                                        as_aux_lemma =>
                                          refine SPL_nil ?_
                                          refine thenP_n ?_
                                          refine SP_cond_f rfl ?_
                                          refine SP_skip ?_
                                          refine thenP_n ?_
                                          refine SP_seq ?_
                                          refine SP_region ?_
                                          refine SPL_y (y_move rfl) rfl ?_
                                          refine SPL_y (y_build B42 rfl rfl (by simp only [fillL, List.foldl_cons, List.foldl_nil, List.set_cons_zero, List.set_cons_succ]; exact rfl)) rfl ?_
                                          obtain ⟨m1, hq1, hP⟩ := bnd1 hP
                                          refine SPL_one rfl (SP1_call (cm_push x eb hb V.nil hq1 _ hM0) Tryz.call107 rfl rfl (by repeat (first | exact Part.nil _ | (apply Part.cons; with_reducible (first | exact P0 | exact P1 | exact P2 | exact P3 | exact P4 | exact P5 | exact P6 | exact P7 | exact P8 | exact P9 | exact P10 | exact P11 | exact P12 | exact P13 | exact P14 | exact P15 | exact P16 | exact P17 | exact P18 | exact P19 | exact P20 | exact P21 | exact P22 | exact P23)) | (apply Part.flat; simp only [List.cons_append, List.nil_append]) | (apply Part.cons; (first | exact P0 | exact P1 | exact P2 | exact P3 | exact P4 | exact P5 | exact P6 | exact P7 | exact P8 | exact P9 | exact P10 | exact P11 | exact P12 | exact P13 | exact P14 | exact P15 | exact P16 | exact P17 | exact P18 | exact P19 | exact P20 | exact P21 | exact P22 | exact P23)) | (apply Part.nilc))) ?_)
                                          rintro v post H' ⟨rfl, sg1, hM1, rfl⟩ hH
                                          try simp only [List.cons_append, List.nil_append] at hH
                                          subst hH
                                          refine SPL_nil ?_
                                          refine thenP_n ?_
                                          refine SP_region ?_
                                          refine SPL_y (y_move rfl) rfl ?_
                                          refine SPL_y (y_fa fld_206_1 rfl) rfl ?_
                                          refine SPL_y (y_load Tryz.isAgg3 rfl (by repeat (first | exact Cell.amid hpre rfl | exact Cell.head rfl | apply Cell.tail))) rfl ?_
                                          refine SPL_y (y_fa fld_206_3 rfl) rfl ?_
                                          refine SPL_y (y_load Tryz.isAgg146 rfl (by repeat (first | exact Cell.amid hpre rfl | exact Cell.head rfl | apply Cell.tail))) rfl ?_
                                          refine SPL_one rfl (SP1_call (cm_do x eb hb hP _ hM1) Tryz.call95 rfl rfl (by repeat (first | exact Part.nil _ | (apply Part.cons; with_reducible (first | exact P0 | exact P1 | exact P2 | exact P3 | exact P4 | exact P5 | exact P6 | exact P7 | exact P8 | exact P9 | exact P10 | exact P11 | exact P12 | exact P13 | exact P14 | exact P15 | exact P16 | exact P17 | exact P18 | exact P19 | exact P20 | exact P21 | exact P22 | exact P23)) | (apply Part.flat; simp only [List.cons_append, List.nil_append]) | (apply Part.cons; (first | exact P0 | exact P1 | exact P2 | exact P3 | exact P4 | exact P5 | exact P6 | exact P7 | exact P8 | exact P9 | exact P10 | exact P11 | exact P12 | exact P13 | exact P14 | exact P15 | exact P16 | exact P17 | exact P18 | exact P19 | exact P20 | exact P21 | exact P22 | exact P23)) | (apply Part.nilc))) ?_)
                                          rintro v post H' ⟨rfl, sg9, hM9, rfl⟩ hH
                                          try simp only [List.cons_append, List.nil_append] at hH
                                          subst hH
                                          refine SPL_nil ?_
                                          refine inBlockP_n ?_
                                          refine bodyP_end (H' := [sg9]) (Res0 rfl) (by repeat (first | exact Part.nil _ | (apply Part.cons; with_reducible (first | exact P0 | exact P1 | exact P2 | exact P3 | exact P4 | exact P5 | exact P6 | exact P7 | exact P8 | exact P9 | exact P10 | exact P11 | exact P12 | exact P13 | exact P14 | exact P15 | exact P16 | exact P17 | exact P18 | exact P19 | exact P20 | exact P21 | exact P22 | exact P23)) | (apply Part.flat; simp only [List.cons_append, List.nil_append]) | (apply Part.cons; (first | exact P0 | exact P1 | exact P2 | exact P3 | exact P4 | exact P5 | exact P6 | exact P7 | exact P8 | exact P9 | exact P10 | exact P11 | exact P12 | exact P13 | exact P14 | exact P15 | exact P16 | exact P17 | exact P18 | exact P19 | exact P20 | exact P21 | exact P22 | exact P23)) | (apply Part.nilc))) ?_
                                          exact ⟨rfl, eb, hb, _, Gr.refl _ _, hM9, rfl⟩
                                    intro h83_0
                                    first | rw [if_neg h83_0] at hP | rw [if_pos (Decidable.not_not.1 h83_0)] at hP | skip
                                    as_aux_lemma =>
                                      refine SPL_y (y_assign rfl) rfl ?_
                                      refine SPL_nil ?_
                                      refine thenP_n ?_
                                      refine SP_cond_f rfl ?_
                                      refine SP_seq ?_
                                      refine SP_region ?_
                                      refine SPL_if (y_eql rfl rfl) rfl ?_ ?_
                                      · intro h89_0
                                        first | rw [if_pos h89_0] at hP | rw [if_neg h89_0] at hP | skip
                                        as_aux_lemma =>
                                          refine SPL_y (y_assign rfl) rfl ?_
                                          refine SPL_nil ?_
                                          refine thenP_n ?_
                                          refine SP_cond_t rfl ?_
                                          refine SP_seq ?_
                                          have hcc := hcc0
                                          have hc := hc0
                                          have hg2 := hg0
                                          unfold k19 at hP
                                          obtain ⟨va, hvva, hP⟩ := bnd1 hP
                                          obtain ⟨⟨_, hvkva, hvlva⟩, hiva, hxva⟩ := vTop_some hvva hcc hc
                                          obtain ⟨vb, hvvb, hP⟩ := bnd1 hP
                                          obtain ⟨⟨_, hvkvb, hvlvb⟩, hivb, hxvb⟩ := vTop_some hvvb hcc hc
                                          have hg7 : tbOk m0 va ∧ numR vb = true := Decidable.byContradiction fun z => by rw [if_pos z] at hP; cases hP
                                          rw [if_neg (fun z => z hg7)] at hP
                                          obtain ⟨⟨ht1, ht2, ht3⟩, hnr⟩ := hg7
                                          obtain ⟨tak, htak⟩ : ∃ k : Nat, va.n = k := ⟨va.n.toNat, by omega⟩
                                          have haj : tak < m0.ts.length := by omega
                                          rw [htak, Int.toNat_natCast] at hP ht3
                                          rw [getD_at haj] at ht3
                                          have hnr2 : 0 ≤ vb.n ∧ vb.n < 18446744073709551616 := of_decide_eq_true hnr
                                          obtain ⟨vk, vc, hVs, hVc⟩ := hM0.tops hc (by omega)
                                          have hCva : ∀ H : Hp, Cells (sg0 :: H) vk (0 + ((m0.ths[c].vals.length - 2 : Nat) : Int).toNat * 3) (valV va) := fun H => by have := hVc _ hiva H; rwa [hxva] at this
                                          have hTva : ∀ H : Hp, Cell (sg0 :: H) vk (0 + ((m0.ths[c].vals.length - 2 : Nat) : Int).toNat * 3 + 0) (I va.t) := fun H => (hCva H).cell (j := 0) rfl
                                          have hCvb : ∀ H : Hp, Cells (sg0 :: H) vk (0 + ((m0.ths[c].vals.length - 1 : Nat) : Int).toNat * 3) (valV vb) := fun H => by have := hVc _ hivb H; rwa [hxvb] at this
                                          have hTvb : ∀ H : Hp, Cell (sg0 :: H) vk (0 + ((m0.ths[c].vals.length - 1 : Nat) : Int).toNat * 3 + 0) (I vb.t) := fun H => (hCvb H).cell (j := 0) rfl
                                          have hNva : ∀ H : Hp, Cell (sg0 :: H) vk (0 + ((m0.ths[c].vals.length - 2 : Nat) : Int).toNat * 3 + 1) (.int .u64 (tak : Int)) := fun H => by have := (hCva H).cell (j := 1) (v := .int .u64 va.n) rfl; rwa [htak] at this
                                          obtain ⟨A, sB, hsE, hTm, hcT, hputT⟩ := isRm_tab hM0
                                          rw [hsE] at hVs hNva hCvb
                                          have hVs2 : ∀ H : Hp, Cell (A :: sB :: H) (hb.getD c 0) (0 + 4) (.slice (some ⟨vk, 0, none⟩) m0.ths[c].vals.length vc) := fun H => Cell.opn (pre := [A, sB]) (hVs [])
                                          have hNva2 : ∀ H : Hp, Cell (A :: sB :: H) vk (0 + ((m0.ths[c].vals.length - 2 : Nat) : Int).toNat * 3 + 1) (.int .u64 (tak : Int)) := fun H => Cell.opn (pre := [A, sB]) (hNva [])
                                          have hCvb2 : ∀ H : Hp, Cells (A :: sB :: H) vk (0 + ((m0.ths[c].vals.length - 1 : Nat) : Int).toNat * 3) (valV vb) := fun H => Cells.opn (pre := [A, sB]) (hCvb [])
                                          rw [hsE]
                                          refine SP_openAt [A, sB] (by first | exact P0 | exact P1 | exact P2 | exact P3 | exact P4 | exact P5 | exact P6 | exact P7 | exact P8 | exact P9 | exact P10 | exact P11 | exact P12 | exact P13 | exact P14 | exact P15 | exact P16 | exact P17 | exact P18 | exact P19 | exact P20 | exact P21 | exact P22 | exact P23) ?_
                                          simp only [List.cons_append, List.nil_append]
                                          refine SP_region ?_
                                          refine SPL_y (y_move rfl) rfl ?_
                                          refine SPL_y (y_nil rfl) rfl ?_
                                          refine SPL_y (y_fa fld_152_4 rfl) rfl ?_
                                          refine SPL_y (y_load Tryz.isAgg90 rfl (by repeat (first | exact hVs2 _ | apply Cell.tail))) rfl ?_
                                          refine SPL_y (y_len_l Tryz.underlying90 rfl) rfl ?_
                                          refine SPL_y (y_assign rfl) rfl ?_
                                          refine SPL_nil ?_
                                          refine thenP_n ?_
                                          refine SP_mid (G := Nat × Nat) (fun g => [(0, ptr x.b), (2, ptr (hb.getD c 0)), (3, ptr b3), (4, ptr b4), (26, I (m0.ths[c].vals.length : Int)), (27, ptr g.1), (28, ptr g.2)]) (fun g => [A, sB, blk b3 206 (tskV eb q), blk b4 158 (ndV d), blk g.1 42 (valV (nextW m0.ts tak vb).1), blk g.2 42 (valV (nextW m0.ts tak vb).2.1)]) (fun _ => True) ?_ ?_
                                          · refine SP_drawG 22 mixed (Part.refl _) ?_
                                            refine SPG_pre (fuel' := 10) [(0, 0), (1, 0), (2, 0), (4, 0), (5, 0), (6, 0), (8, 0), (9, 0), (14, 0), (15, 0), (16, 0), (18, 0), (19, 0), (3, 1), (7, 1), (10, 0), (11, 0), (12, 1), (13, 0), (17, 1), (20, 0), (21, 1)] (by kernel_rfl) (fun _ _ _ _ _ h => h) ?_
                                            refine SPP_p rfl (y_move rfl) rfl ?_
                                            refine SPP_p rfl (y_nil rfl) rfl ?_
                                            refine SPP_p rfl (y_fa fld_142_1 rfl) rfl ?_
                                            refine SPP_p rfl (y_move rfl) rfl ?_
                                            refine SPP_p rfl (y_nil rfl) rfl ?_
                                            refine SPP_p rfl (y_fa fld_152_4 rfl) rfl ?_
                                            refine SPP_p rfl (y_move rfl) rfl ?_
                                            refine SPP_p rfl (y_sub rfl rfl (by omega)) rfl ?_
                                            rw [show ((m0.ths[c].vals.length : Nat) : Int) - 2 = ((m0.ths[c].vals.length - 2 : Nat) : Int) by omega]
                                            refine SPP_p rfl (y_move rfl) rfl ?_
                                            refine SPP_p rfl (y_nil rfl) rfl ?_
                                            refine SPP_p rfl (y_fa fld_152_4 rfl) rfl ?_
                                            refine SPP_p rfl (y_move rfl) rfl ?_
                                            refine SPP_p rfl (y_sub rfl rfl (by omega)) rfl ?_
                                            rw [show ((m0.ths[c].vals.length : Nat) : Int) - 1 = ((m0.ths[c].vals.length - 1 : Nat) : Int) by omega]
                                            refine SPP_h rfl (y_load Tryz.isAgg80 rfl (by repeat (first | exact hcT _ | apply Cell.tail))) rfl ?_
                                            refine SPP_h rfl (y_load Tryz.isAgg90 rfl (by repeat (first | exact hVs2 _ | apply Cell.tail))) rfl ?_
                                            refine SPP_p rfl (y_ia Tryz.underlying90 Tryz.sizeOf42 rfl rfl (by omega)) rfl ?_
                                            refine SPP_p rfl (y_fa fld_42_1 rfl) rfl ?_
                                            refine SPP_h rfl (y_load Tryz.isAgg40 rfl (by repeat (first | exact hNva2 _ | apply Cell.tail))) rfl ?_
                                            refine SPP_p rfl (y_conv Tryz.underlying40 Tryz.underlying3 rfl (show IntKind.i64.wrap ((tak : Nat) : Int) = ((tak : Nat) : Int) by rw [IntKind.wrap_i64]; omega)) rfl ?_
                                            refine SPP_h rfl (y_load Tryz.isAgg90 rfl (by repeat (first | exact hVs2 _ | apply Cell.tail))) rfl ?_
                                            refine SPP_p rfl (y_ia Tryz.underlying90 Tryz.sizeOf42 rfl rfl (by omega)) rfl ?_
                                            refine SPP_h rfl (y_loads Tryz.isAgg42 Tryz.sizeOf42 rfl rfl (by repeat (first | exact hCvb2 _ | apply Cells.tail))) rfl ?_
                                            refine SPP_nil ?_
                                            refine SPG_three (i := 22) (j := 27) (k := 28) (by kernel_rfl) rfl rfl rfl rfl rfl rfl ?_ ?_ ?_
                                            · refine SP1_call (tm_Next x.tb x.nb m0.ts sB hTm tak haj ht2 ht3 vb hnr2) Tryz.call108 rfl rfl (by repeat (first | exact Part.nil _ | (apply Part.cons; with_reducible (first | exact P0 | exact P1 | exact P2 | exact P3 | exact P4 | exact P5 | exact P6 | exact P7 | exact P8 | exact P9 | exact P10 | exact P11 | exact P12 | exact P13 | exact P14 | exact P15 | exact P16 | exact P17 | exact P18 | exact P19 | exact P20 | exact P21 | exact P22 | exact P23)) | (apply Part.flat; simp only [List.cons_append, List.nil_append]) | (apply Part.cons; (first | exact P0 | exact P1 | exact P2 | exact P3 | exact P4 | exact P5 | exact P6 | exact P7 | exact P8 | exact P9 | exact P10 | exact P11 | exact P12 | exact P13 | exact P14 | exact P15 | exact P16 | exact P17 | exact P18 | exact P19 | exact P20 | exact P21 | exact P22 | exact P23)) | (apply Part.nilc))) ?_
                                              rintro v post H' ⟨rfl, rfl⟩ hH
                                              try simp only [List.cons_append, List.nil_append] at hH
                                              subst hH
                                              refine ⟨fun h => absurd rfl h, ?_⟩
                                              refine SPG_pre (fuel' := 5) [(23, 0), (24, 0), (25, 0), (26, 0)] (by kernel_rfl) (fun _ _ _ _ _ h => h) ?_
                                              refine SPP_p rfl (y_move rfl) rfl ?_
                                              refine SPP_p rfl (y_ext rfl rfl) rfl ?_
                                              refine SPP_p rfl (y_ext rfl rfl) rfl ?_
                                              refine SPP_p rfl (y_ext rfl rfl) rfl ?_
                                              refine SPP_nil ?_
                                              refine SPG_twoL (i := 27) (j := 28) (by kernel_rfl) (by kernel_rfl) rfl rfl rfl rfl ?_ ?_
                                              · refine SP1_alloc Tryz.zeroValue42 rfl rfl ?_
                                                intro b27
                                                refine SPG_ord [(28, 3), (29, 3), (30, 3), (31, 0)] (by kernel_rfl) (fun _ _ _ _ _ h => h) ?_
                                                refine SPO_z (k := 0) rfl rfl (SP1_alloc Tryz.zeroValue42 rfl rfl ?_)
                                                intro b28
                                                refine SPO_z (k := 0) rfl rfl (SP1_storeAll Tryz.sizeOf42 rfl rfl rfl rfl rfl (by first | exact U0 | exact U1 | exact U2 | exact U3 | exact U4 | exact U5 | exact U6 | exact U7 | exact U8 | exact U9 | exact U10 | exact U11 | exact U12 | exact U13 | exact U14 | exact U15 | exact U16 | exact U17 | exact U18 | exact U19 | exact U20 | exact U21 | exact U22 | exact U23) (by rfl) ?_)
                                                refine SPO_z (k := 0) rfl rfl (SP1_storeAll Tryz.sizeOf42 rfl rfl rfl rfl rfl (by first | exact U0 | exact U1 | exact U2 | exact U3 | exact U4 | exact U5 | exact U6 | exact U7 | exact U8 | exact U9 | exact U10 | exact U11 | exact U12 | exact U13 | exact U14 | exact U15 | exact U16 | exact U17 | exact U18 | exact U19 | exact U20 | exact U21 | exact U22 | exact U23) (by rfl) ?_)
                                                refine SPO_p rfl (y_assign rfl) rfl ?_
                                                refine SPO_nil ?_
                                                refine thenP_n ?_
                                                exact Mid.intro ((b27, b28)) (trivial) (by repeat (first | exact Sub.nil _ | refine Sub.cons rfl ?_)) (by repeat (first | exact Part.nil _ | (apply Part.cons; with_reducible (first | exact P0 | exact P1 | exact P2 | exact P3 | exact P4 | exact P5 | exact P6 | exact P7 | exact P8 | exact P9 | exact P10 | exact P11 | exact P12 | exact P13 | exact P14 | exact P15 | exact P16 | exact P17 | exact P18 | exact P19 | exact P20 | exact P21 | exact P22 | exact P23)) | (apply Part.flat; simp only [List.cons_append, List.nil_append]) | (apply Part.cons; (first | exact P0 | exact P1 | exact P2 | exact P3 | exact P4 | exact P5 | exact P6 | exact P7 | exact P8 | exact P9 | exact P10 | exact P11 | exact P12 | exact P13 | exact P14 | exact P15 | exact P16 | exact P17 | exact P18 | exact P19 | exact P20 | exact P21 | exact P22 | exact P23)) | (apply Part.nilc)))
                                              refine SP1_alloc Tryz.zeroValue42 rfl rfl ?_
                                              intro b28
                                              refine SPG_ord [(27, 3), (29, 3), (30, 3), (31, 0)] (by kernel_rfl) (fun _ _ _ _ _ h => h) ?_
                                              refine SPO_z (k := 0) rfl rfl (SP1_alloc Tryz.zeroValue42 rfl rfl ?_)
                                              intro b27
                                              refine SPO_z (k := 0) rfl rfl (SP1_storeAll Tryz.sizeOf42 rfl rfl rfl rfl rfl (by first | exact U0 | exact U1 | exact U2 | exact U3 | exact U4 | exact U5 | exact U6 | exact U7 | exact U8 | exact U9 | exact U10 | exact U11 | exact U12 | exact U13 | exact U14 | exact U15 | exact U16 | exact U17 | exact U18 | exact U19 | exact U20 | exact U21 | exact U22 | exact U23) (by rfl) ?_)
                                              refine SPO_z (k := 0) rfl rfl (SP1_storeAll Tryz.sizeOf42 rfl rfl rfl rfl rfl (by first | exact U0 | exact U1 | exact U2 | exact U3 | exact U4 | exact U5 | exact U6 | exact U7 | exact U8 | exact U9 | exact U10 | exact U11 | exact U12 | exact U13 | exact U14 | exact U15 | exact U16 | exact U17 | exact U18 | exact U19 | exact U20 | exact U21 | exact U22 | exact U23) (by rfl) ?_)
                                              refine SPO_p rfl (y_assign rfl) rfl ?_
                                              refine SPO_nil ?_
                                              refine thenP_n ?_
                                              exact Mid.intro ((b27, b28)) (trivial) (by repeat (first | exact Sub.nil _ | refine Sub.cons rfl ?_)) (by repeat (first | exact Part.nil _ | (apply Part.cons; with_reducible (first | exact P0 | exact P1 | exact P2 | exact P3 | exact P4 | exact P5 | exact P6 | exact P7 | exact P8 | exact P9 | exact P10 | exact P11 | exact P12 | exact P13 | exact P14 | exact P15 | exact P16 | exact P17 | exact P18 | exact P19 | exact P20 | exact P21 | exact P22 | exact P23)) | (apply Part.flat; simp only [List.cons_append, List.nil_append]) | (apply Part.cons; (first | exact P0 | exact P1 | exact P2 | exact P3 | exact P4 | exact P5 | exact P6 | exact P7 | exact P8 | exact P9 | exact P10 | exact P11 | exact P12 | exact P13 | exact P14 | exact P15 | exact P16 | exact P17 | exact P18 | exact P19 | exact P20 | exact P21 | exact P22 | exact P23)) | (apply Part.nilc)))
                                            · refine SP1_alloc Tryz.zeroValue42 rfl rfl ?_
                                              intro b27
                                              refine ⟨fun _ => ⟨_, (by repeat (first | exact Part.nil _ | (apply Part.cons; with_reducible (first | exact P0 | exact P1 | exact P2 | exact P3 | exact P4 | exact P5 | exact P6 | exact P7 | exact P8 | exact P9 | exact P10 | exact P11 | exact P12 | exact P13 | exact P14 | exact P15 | exact P16 | exact P17 | exact P18 | exact P19 | exact P20 | exact P21 | exact P22 | exact P23)) | (apply Part.flat; simp only [List.cons_append, List.nil_append]) | (apply Part.cons; (first | exact P0 | exact P1 | exact P2 | exact P3 | exact P4 | exact P5 | exact P6 | exact P7 | exact P8 | exact P9 | exact P10 | exact P11 | exact P12 | exact P13 | exact P14 | exact P15 | exact P16 | exact P17 | exact P18 | exact P19 | exact P20 | exact P21 | exact P22 | exact P23)) | (apply Part.nilc)))⟩, ?_⟩
                                              refine SPG_two (i := 22) (j := 28) (by kernel_rfl) rfl rfl rfl rfl ?_ ?_
                                              · refine SP1_call (tm_Next x.tb x.nb m0.ts sB hTm tak haj ht2 ht3 vb hnr2) Tryz.call108 rfl rfl (by repeat (first | exact Part.nil _ | (apply Part.cons; with_reducible (first | exact P0 | exact P1 | exact P2 | exact P3 | exact P4 | exact P5 | exact P6 | exact P7 | exact P8 | exact P9 | exact P10 | exact P11 | exact P12 | exact P13 | exact P14 | exact P15 | exact P16 | exact P17 | exact P18 | exact P19 | exact P20 | exact P21 | exact P22 | exact P23)) | (apply Part.flat; simp only [List.cons_append, List.nil_append]) | (apply Part.cons; (first | exact P0 | exact P1 | exact P2 | exact P3 | exact P4 | exact P5 | exact P6 | exact P7 | exact P8 | exact P9 | exact P10 | exact P11 | exact P12 | exact P13 | exact P14 | exact P15 | exact P16 | exact P17 | exact P18 | exact P19 | exact P20 | exact P21 | exact P22 | exact P23)) | (apply Part.nilc))) ?_
                                                rintro v post H' ⟨rfl, rfl⟩ hH
                                                try simp only [List.cons_append, List.nil_append] at hH
                                                subst hH
                                                refine ⟨fun h => absurd rfl h, ?_⟩
                                                refine SPG_ord [(23, 0), (24, 0), (25, 0), (26, 0), (28, 3), (29, 3), (30, 3), (31, 0)] (by kernel_rfl) (fun _ _ _ _ _ h => h) ?_
                                                refine SPO_p rfl (y_move rfl) rfl ?_
                                                refine SPO_p rfl (y_ext rfl rfl) rfl ?_
                                                refine SPO_p rfl (y_ext rfl rfl) rfl ?_
                                                refine SPO_p rfl (y_ext rfl rfl) rfl ?_
                                                refine SPO_z (k := 0) rfl rfl (SP1_alloc Tryz.zeroValue42 rfl rfl ?_)
                                                intro b28
                                                refine SPO_z (k := 0) rfl rfl (SP1_storeAll Tryz.sizeOf42 rfl rfl rfl rfl rfl (by first | exact U0 | exact U1 | exact U2 | exact U3 | exact U4 | exact U5 | exact U6 | exact U7 | exact U8 | exact U9 | exact U10 | exact U11 | exact U12 | exact U13 | exact U14 | exact U15 | exact U16 | exact U17 | exact U18 | exact U19 | exact U20 | exact U21 | exact U22 | exact U23) (by rfl) ?_)
                                                refine SPO_z (k := 0) rfl rfl (SP1_storeAll Tryz.sizeOf42 rfl rfl rfl rfl rfl (by first | exact U0 | exact U1 | exact U2 | exact U3 | exact U4 | exact U5 | exact U6 | exact U7 | exact U8 | exact U9 | exact U10 | exact U11 | exact U12 | exact U13 | exact U14 | exact U15 | exact U16 | exact U17 | exact U18 | exact U19 | exact U20 | exact U21 | exact U22 | exact U23) (by rfl) ?_)
                                                refine SPO_p rfl (y_assign rfl) rfl ?_
                                                refine SPO_nil ?_
                                                refine thenP_n ?_
                                                exact Mid.intro ((b27, b28)) (trivial) (by repeat (first | exact Sub.nil _ | refine Sub.cons rfl ?_)) (by repeat (first | exact Part.nil _ | (apply Part.cons; with_reducible (first | exact P0 | exact P1 | exact P2 | exact P3 | exact P4 | exact P5 | exact P6 | exact P7 | exact P8 | exact P9 | exact P10 | exact P11 | exact P12 | exact P13 | exact P14 | exact P15 | exact P16 | exact P17 | exact P18 | exact P19 | exact P20 | exact P21 | exact P22 | exact P23)) | (apply Part.flat; simp only [List.cons_append, List.nil_append]) | (apply Part.cons; (first | exact P0 | exact P1 | exact P2 | exact P3 | exact P4 | exact P5 | exact P6 | exact P7 | exact P8 | exact P9 | exact P10 | exact P11 | exact P12 | exact P13 | exact P14 | exact P15 | exact P16 | exact P17 | exact P18 | exact P19 | exact P20 | exact P21 | exact P22 | exact P23)) | (apply Part.nilc)))
                                              refine SP1_alloc Tryz.zeroValue42 rfl rfl ?_
                                              intro b28
                                              refine ⟨fun _ => ⟨_, (by repeat (first | exact Part.nil _ | (apply Part.cons; with_reducible (first | exact P0 | exact P1 | exact P2 | exact P3 | exact P4 | exact P5 | exact P6 | exact P7 | exact P8 | exact P9 | exact P10 | exact P11 | exact P12 | exact P13 | exact P14 | exact P15 | exact P16 | exact P17 | exact P18 | exact P19 | exact P20 | exact P21 | exact P22 | exact P23)) | (apply Part.flat; simp only [List.cons_append, List.nil_append]) | (apply Part.cons; (first | exact P0 | exact P1 | exact P2 | exact P3 | exact P4 | exact P5 | exact P6 | exact P7 | exact P8 | exact P9 | exact P10 | exact P11 | exact P12 | exact P13 | exact P14 | exact P15 | exact P16 | exact P17 | exact P18 | exact P19 | exact P20 | exact P21 | exact P22 | exact P23)) | (apply Part.nilc)))⟩, ?_⟩
                                              refine SPG_ord [(22, 3), (23, 0), (24, 0), (25, 0), (26, 0), (29, 3), (30, 3), (31, 0)] (by kernel_rfl) (fun _ _ _ _ _ h => h) ?_
                                              refine SPO_z (k := 0) rfl rfl (SP1_call (tm_Next x.tb x.nb m0.ts sB hTm tak haj ht2 ht3 vb hnr2) Tryz.call108 rfl rfl (by repeat (first | exact Part.nil _ | (apply Part.cons; with_reducible (first | exact P0 | exact P1 | exact P2 | exact P3 | exact P4 | exact P5 | exact P6 | exact P7 | exact P8 | exact P9 | exact P10 | exact P11 | exact P12 | exact P13 | exact P14 | exact P15 | exact P16 | exact P17 | exact P18 | exact P19 | exact P20 | exact P21 | exact P22 | exact P23)) | (apply Part.flat; simp only [List.cons_append, List.nil_append]) | (apply Part.cons; (first | exact P0 | exact P1 | exact P2 | exact P3 | exact P4 | exact P5 | exact P6 | exact P7 | exact P8 | exact P9 | exact P10 | exact P11 | exact P12 | exact P13 | exact P14 | exact P15 | exact P16 | exact P17 | exact P18 | exact P19 | exact P20 | exact P21 | exact P22 | exact P23)) | (apply Part.nilc))) ?_)
                                              rintro v post H' ⟨rfl, rfl⟩ hH
                                              try simp only [List.cons_append, List.nil_append] at hH
                                              subst hH
                                              refine SPO_p rfl (y_move rfl) rfl ?_
                                              refine SPO_p rfl (y_ext rfl rfl) rfl ?_
                                              refine SPO_p rfl (y_ext rfl rfl) rfl ?_
                                              refine SPO_p rfl (y_ext rfl rfl) rfl ?_
                                              refine SPO_z (k := 0) rfl rfl (SP1_storeAll Tryz.sizeOf42 rfl rfl rfl rfl rfl (by first | exact U0 | exact U1 | exact U2 | exact U3 | exact U4 | exact U5 | exact U6 | exact U7 | exact U8 | exact U9 | exact U10 | exact U11 | exact U12 | exact U13 | exact U14 | exact U15 | exact U16 | exact U17 | exact U18 | exact U19 | exact U20 | exact U21 | exact U22 | exact U23) (by rfl) ?_)
                                              refine SPO_z (k := 0) rfl rfl (SP1_storeAll Tryz.sizeOf42 rfl rfl rfl rfl rfl (by first | exact U0 | exact U1 | exact U2 | exact U3 | exact U4 | exact U5 | exact U6 | exact U7 | exact U8 | exact U9 | exact U10 | exact U11 | exact U12 | exact U13 | exact U14 | exact U15 | exact U16 | exact U17 | exact U18 | exact U19 | exact U20 | exact U21 | exact U22 | exact U23) (by rfl) ?_)
                                              refine SPO_p rfl (y_assign rfl) rfl ?_
                                              refine SPO_nil ?_
                                              refine thenP_n ?_
                                              exact Mid.intro ((b27, b28)) (trivial) (by repeat (first | exact Sub.nil _ | refine Sub.cons rfl ?_)) (by repeat (first | exact Part.nil _ | (apply Part.cons; with_reducible (first | exact P0 | exact P1 | exact P2 | exact P3 | exact P4 | exact P5 | exact P6 | exact P7 | exact P8 | exact P9 | exact P10 | exact P11 | exact P12 | exact P13 | exact P14 | exact P15 | exact P16 | exact P17 | exact P18 | exact P19 | exact P20 | exact P21 | exact P22 | exact P23)) | (apply Part.flat; simp only [List.cons_append, List.nil_append]) | (apply Part.cons; (first | exact P0 | exact P1 | exact P2 | exact P3 | exact P4 | exact P5 | exact P6 | exact P7 | exact P8 | exact P9 | exact P10 | exact P11 | exact P12 | exact P13 | exact P14 | exact P15 | exact P16 | exact P17 | exact P18 | exact P19 | exact P20 | exact P21 | exact P22 | exact P23)) | (apply Part.nilc)))
                                            refine SP1_alloc Tryz.zeroValue42 rfl rfl ?_
                                            intro b28
                                            refine ⟨fun _ => ⟨_, (by repeat (first | exact Part.nil _ | (apply Part.cons; with_reducible (first | exact P0 | exact P1 | exact P2 | exact P3 | exact P4 | exact P5 | exact P6 | exact P7 | exact P8 | exact P9 | exact P10 | exact P11 | exact P12 | exact P13 | exact P14 | exact P15 | exact P16 | exact P17 | exact P18 | exact P19 | exact P20 | exact P21 | exact P22 | exact P23)) | (apply Part.flat; simp only [List.cons_append, List.nil_append]) | (apply Part.cons; (first | exact P0 | exact P1 | exact P2 | exact P3 | exact P4 | exact P5 | exact P6 | exact P7 | exact P8 | exact P9 | exact P10 | exact P11 | exact P12 | exact P13 | exact P14 | exact P15 | exact P16 | exact P17 | exact P18 | exact P19 | exact P20 | exact P21 | exact P22 | exact P23)) | (apply Part.nilc)))⟩, ?_⟩
                                            refine SPG_two (i := 22) (j := 27) (by kernel_rfl) rfl rfl rfl rfl ?_ ?_
                                            · refine SP1_call (tm_Next x.tb x.nb m0.ts sB hTm tak haj ht2 ht3 vb hnr2) Tryz.call108 rfl rfl (by repeat (first | exact Part.nil _ | (apply Part.cons; with_reducible (first | exact P0 | exact P1 | exact P2 | exact P3 | exact P4 | exact P5 | exact P6 | exact P7 | exact P8 | exact P9 | exact P10 | exact P11 | exact P12 | exact P13 | exact P14 | exact P15 | exact P16 | exact P17 | exact P18 | exact P19 | exact P20 | exact P21 | exact P22 | exact P23)) | (apply Part.flat; simp only [List.cons_append, List.nil_append]) | (apply Part.cons; (first | exact P0 | exact P1 | exact P2 | exact P3 | exact P4 | exact P5 | exact P6 | exact P7 | exact P8 | exact P9 | exact P10 | exact P11 | exact P12 | exact P13 | exact P14 | exact P15 | exact P16 | exact P17 | exact P18 | exact P19 | exact P20 | exact P21 | exact P22 | exact P23)) | (apply Part.nilc))) ?_
                                              rintro v post H' ⟨rfl, rfl⟩ hH
                                              try simp only [List.cons_append, List.nil_append] at hH
                                              subst hH
                                              refine ⟨fun h => absurd rfl h, ?_⟩
                                              refine SPG_ord [(23, 0), (24, 0), (25, 0), (26, 0), (27, 3), (29, 3), (30, 3), (31, 0)] (by kernel_rfl) (fun _ _ _ _ _ h => h) ?_
                                              refine SPO_p rfl (y_move rfl) rfl ?_
                                              refine SPO_p rfl (y_ext rfl rfl) rfl ?_
                                              refine SPO_p rfl (y_ext rfl rfl) rfl ?_
                                              refine SPO_p rfl (y_ext rfl rfl) rfl ?_
                                              refine SPO_z (k := 0) rfl rfl (SP1_alloc Tryz.zeroValue42 rfl rfl ?_)
                                              intro b27
                                              refine SPO_z (k := 0) rfl rfl (SP1_storeAll Tryz.sizeOf42 rfl rfl rfl rfl rfl (by first | exact U0 | exact U1 | exact U2 | exact U3 | exact U4 | exact U5 | exact U6 | exact U7 | exact U8 | exact U9 | exact U10 | exact U11 | exact U12 | exact U13 | exact U14 | exact U15 | exact U16 | exact U17 | exact U18 | exact U19 | exact U20 | exact U21 | exact U22 | exact U23) (by rfl) ?_)
                                              refine SPO_z (k := 0) rfl rfl (SP1_storeAll Tryz.sizeOf42 rfl rfl rfl rfl rfl (by first | exact U0 | exact U1 | exact U2 | exact U3 | exact U4 | exact U5 | exact U6 | exact U7 | exact U8 | exact U9 | exact U10 | exact U11 | exact U12 | exact U13 | exact U14 | exact U15 | exact U16 | exact U17 | exact U18 | exact U19 | exact U20 | exact U21 | exact U22 | exact U23) (by rfl) ?_)
                                              refine SPO_p rfl (y_assign rfl) rfl ?_
                                              refine SPO_nil ?_
                                              refine thenP_n ?_
                                              exact Mid.intro ((b27, b28)) (trivial) (by repeat (first | exact Sub.nil _ | refine Sub.cons rfl ?_)) (by repeat (first | exact Part.nil _ | (apply Part.cons; with_reducible (first | exact P0 | exact P1 | exact P2 | exact P3 | exact P4 | exact P5 | exact P6 | exact P7 | exact P8 | exact P9 | exact P10 | exact P11 | exact P12 | exact P13 | exact P14 | exact P15 | exact P16 | exact P17 | exact P18 | exact P19 | exact P20 | exact P21 | exact P22 | exact P23)) | (apply Part.flat; simp only [List.cons_append, List.nil_append]) | (apply Part.cons; (first | exact P0 | exact P1 | exact P2 | exact P3 | exact P4 | exact P5 | exact P6 | exact P7 | exact P8 | exact P9 | exact P10 | exact P11 | exact P12 | exact P13 | exact P14 | exact P15 | exact P16 | exact P17 | exact P18 | exact P19 | exact P20 | exact P21 | exact P22 | exact P23)) | (apply Part.nilc)))
                                            refine SP1_alloc Tryz.zeroValue42 rfl rfl ?_
                                            intro b27
                                            refine ⟨fun _ => ⟨_, (by repeat (first | exact Part.nil _ | (apply Part.cons; with_reducible (first | exact P0 | exact P1 | exact P2 | exact P3 | exact P4 | exact P5 | exact P6 | exact P7 | exact P8 | exact P9 | exact P10 | exact P11 | exact P12 | exact P13 | exact P14 | exact P15 | exact P16 | exact P17 | exact P18 | exact P19 | exact P20 | exact P21 | exact P22 | exact P23)) | (apply Part.flat; simp only [List.cons_append, List.nil_append]) | (apply Part.cons; (first | exact P0 | exact P1 | exact P2 | exact P3 | exact P4 | exact P5 | exact P6 | exact P7 | exact P8 | exact P9 | exact P10 | exact P11 | exact P12 | exact P13 | exact P14 | exact P15 | exact P16 | exact P17 | exact P18 | exact P19 | exact P20 | exact P21 | exact P22 | exact P23)) | (apply Part.nilc)))⟩, ?_⟩
                                            refine SPG_ord [(22, 3), (23, 0), (24, 0), (25, 0), (26, 0), (29, 3), (30, 3), (31, 0)] (by kernel_rfl) (fun _ _ _ _ _ h => h) ?_
                                            refine SPO_z (k := 0) rfl rfl (SP1_call (tm_Next x.tb x.nb m0.ts sB hTm tak haj ht2 ht3 vb hnr2) Tryz.call108 rfl rfl (by repeat (first | exact Part.nil _ | (apply Part.cons; with_reducible (first | exact P0 | exact P1 | exact P2 | exact P3 | exact P4 | exact P5 | exact P6 | exact P7 | exact P8 | exact P9 | exact P10 | exact P11 | exact P12 | exact P13 | exact P14 | exact P15 | exact P16 | exact P17 | exact P18 | exact P19 | exact P20 | exact P21 | exact P22 | exact P23)) | (apply Part.flat; simp only [List.cons_append, List.nil_append]) | (apply Part.cons; (first | exact P0 | exact P1 | exact P2 | exact P3 | exact P4 | exact P5 | exact P6 | exact P7 | exact P8 | exact P9 | exact P10 | exact P11 | exact P12 | exact P13 | exact P14 | exact P15 | exact P16 | exact P17 | exact P18 | exact P19 | exact P20 | exact P21 | exact P22 | exact P23)) | (apply Part.nilc))) ?_)
                                            rintro v post H' ⟨rfl, rfl⟩ hH
                                            try simp only [List.cons_append, List.nil_append] at hH
                                            subst hH
                                            refine SPO_p rfl (y_move rfl) rfl ?_
                                            refine SPO_p rfl (y_ext rfl rfl) rfl ?_
                                            refine SPO_p rfl (y_ext rfl rfl) rfl ?_
                                            refine SPO_p rfl (y_ext rfl rfl) rfl ?_
                                            refine SPO_z (k := 0) rfl rfl (SP1_storeAll Tryz.sizeOf42 rfl rfl rfl rfl rfl (by first | exact U0 | exact U1 | exact U2 | exact U3 | exact U4 | exact U5 | exact U6 | exact U7 | exact U8 | exact U9 | exact U10 | exact U11 | exact U12 | exact U13 | exact U14 | exact U15 | exact U16 | exact U17 | exact U18 | exact U19 | exact U20 | exact U21 | exact U22 | exact U23) (by rfl) ?_)
                                            refine SPO_z (k := 0) rfl rfl (SP1_storeAll Tryz.sizeOf42 rfl rfl rfl rfl rfl (by first | exact U0 | exact U1 | exact U2 | exact U3 | exact U4 | exact U5 | exact U6 | exact U7 | exact U8 | exact U9 | exact U10 | exact U11 | exact U12 | exact U13 | exact U14 | exact U15 | exact U16 | exact U17 | exact U18 | exact U19 | exact U20 | exact U21 | exact U22 | exact U23) (by rfl) ?_)
                                            refine SPO_p rfl (y_assign rfl) rfl ?_
                                            refine SPO_nil ?_
                                            refine thenP_n ?_
                                            exact Mid.intro ((b27, b28)) (trivial) (by repeat (first | exact Sub.nil _ | refine Sub.cons rfl ?_)) (by repeat (first | exact Part.nil _ | (apply Part.cons; with_reducible (first | exact P0 | exact P1 | exact P2 | exact P3 | exact P4 | exact P5 | exact P6 | exact P7 | exact P8 | exact P9 | exact P10 | exact P11 | exact P12 | exact P13 | exact P14 | exact P15 | exact P16 | exact P17 | exact P18 | exact P19 | exact P20 | exact P21 | exact P22 | exact P23)) | (apply Part.flat; simp only [List.cons_append, List.nil_append]) | (apply Part.cons; (first | exact P0 | exact P1 | exact P2 | exact P3 | exact P4 | exact P5 | exact P6 | exact P7 | exact P8 | exact P9 | exact P10 | exact P11 | exact P12 | exact P13 | exact P14 | exact P15 | exact P16 | exact P17 | exact P18 | exact P19 | exact P20 | exact P21 | exact P22 | exact P23)) | (apply Part.nilc)))
                                          rintro ⟨b27, b28⟩ -
                                          dsimp only
                                          refine SP_seq ?_
                                          refine SP_seq ?_
                                          refine SP_part (H' := [List.flatten [A, sB], blk b3 206 (tskV eb q), blk b4 158 (ndV d), blk b27 42 (valV (nextW m0.ts tak vb).1), blk b28 42 (valV (nextW m0.ts tak vb).2.1)]) (by repeat (first | exact Part.nil _ | (apply Part.cons; with_reducible (first | exact P0 | exact P1 | exact P2 | exact P3 | exact P4 | exact P5 | exact P6 | exact P7 | exact P8 | exact P9 | exact P10 | exact P11 | exact P12 | exact P13 | exact P14 | exact P15 | exact P16 | exact P17 | exact P18 | exact P19 | exact P20 | exact P21 | exact P22 | exact P23)) | (apply Part.flat; simp only [List.cons_append, List.nil_append]) | (apply Part.cons; (first | exact P0 | exact P1 | exact P2 | exact P3 | exact P4 | exact P5 | exact P6 | exact P7 | exact P8 | exact P9 | exact P10 | exact P11 | exact P12 | exact P13 | exact P14 | exact P15 | exact P16 | exact P17 | exact P18 | exact P19 | exact P20 | exact P21 | exact P22 | exact P23)) | (apply Part.nilc))) ?_
                                          rw [← hsE]
                                          generalize (nextW m0.ts tak vb) = nx at hP
                                          refine SP_region ?_
                                          refine SPL_y (y_fa fld_42_0 rfl) rfl ?_
                                          refine SPL_y (y_load Tryz.isAgg3 rfl (by repeat (first | exact Cell.amid hpre rfl | exact Cell.head rfl | apply Cell.tail))) rfl ?_
                                          refine SPL_if (y_eql rfl rfl) rfl ?_ ?_
                                          · intro h92_2
                                            first | rw [if_pos h92_2] at hP | rw [if_neg h92_2] at hP | skip
                                            as_aux_lemma =>
                                              refine SPL_nil ?_
                                              refine thenP_n ?_
                                              refine SP_cond_t rfl ?_
                                              refine SP_seq ?_
                                              obtain rfl := rcutV_some hP hcc hc
                                              obtain ⟨ca, cc, hk, hc', hsp, s0, s1, s2, s3, s4, sX, sA, sZ, R, ta, tc, va, vc, sa, sv, rfl, hstk, hhl, hTA, hVA, hTS, hput⟩ := isRm_open hM0 hc
                                              refine SP_openAt [blk x.b 142 [ptr x.nb, ptr x.tb, Value.slice x.na m0.nodes.length x.nc, I m0.root, Value.slice ca m0.clos.length cc, Value.slice (some ⟨hk, 0, none⟩) m0.ths.length hc', I s0, I s1, I s2, I s3, I s4, I m0.sp, I m0.cur, I m0.fuel, I m0.first, S m0.out, .bool m0.done, I m0.ans.e, I m0.ans.n, I m0.ans.m, S m0.ans.s, S m0.ans.t], sX, blk hk 149 (hb.map ptr ++ hsp), sA, List.flatten [blk (hb.getD c 0) 152 [I m0.ths[c].st, I m0.ths[c].fn, I (m0.ths[c].depth), Value.slice ta (m0.ths[c].tasks.length) tc, Value.slice va (m0.ths[c].vals.length) vc], sa, sv], sZ, R] (by first | exact P0 | exact P1 | exact P2 | exact P3 | exact P4 | exact P5 | exact P6 | exact P7 | exact P8 | exact P9 | exact P10 | exact P11 | exact P12 | exact P13 | exact P14 | exact P15 | exact P16 | exact P17 | exact P18 | exact P19 | exact P20 | exact P21 | exact P22 | exact P23) ?_
                                              simp only [List.cons_append, List.nil_append]
                                              refine SP_openAt [blk (hb.getD c 0) 152 [I m0.ths[c].st, I m0.ths[c].fn, I (m0.ths[c].depth), Value.slice ta (m0.ths[c].tasks.length) tc, Value.slice va (m0.ths[c].vals.length) vc], sa, sv] (by first | exact P0 | exact P1 | exact P2 | exact P3 | exact P4 | exact P5 | exact P6 | exact P7 | exact P8 | exact P9 | exact P10 | exact P11 | exact P12 | exact P13 | exact P14 | exact P15 | exact P16 | exact P17 | exact P18 | exact P19 | exact P20 | exact P21 | exact P22 | exact P23) ?_
                                              simp only [List.cons_append, List.nil_append]
                                              have hcell : ∀ H : Hp, Cell (blk hk 149 (hb.map ptr ++ hsp) :: H) hk (0 + ((c : Nat) : Int).toNat * 1) (ptr (hb.getD c 0)) := fun H => Cell.head (hb_at hhl hc)
                                              rw [hcc]
                                              have hvle := hVA.mle
                                              refine SP_region ?_
                                              refine SPL_y (y_move rfl) rfl ?_
                                              refine SPL_y (y_move rfl) rfl ?_
                                              refine SPL_y (y_nil rfl) rfl ?_
                                              refine SPL_y (y_fa fld_152_4 rfl) rfl ?_
                                              refine SPL_y (y_load Tryz.isAgg90 rfl (by repeat (first | exact Cell.amid hpre rfl | exact Cell.head rfl | apply Cell.tail))) rfl ?_
                                              refine SPL_y (y_move rfl) rfl ?_
                                              refine SPL_y (y_sub rfl rfl (by omega)) rfl ?_
                                              rw [show ((m0.ths[c].vals.length : Nat) : Int) - 2 = ((m0.ths[c].vals.length - 2 : Nat) : Int) by omega]
                                              refine SPL_y (y_cut hVA Tryz.underlying90 Tryz.sizeOf42 rfl rfl (by omega)) rfl ?_
                                              refine SPL_y (y_nil rfl) rfl ?_
                                              refine SPL_y (y_fa fld_152_4 rfl) rfl ?_
                                              refine SPL_one rfl (SP1_store Tryz.sizeOf90 rfl rfl rfl (by first | exact U0 | exact U1 | exact U2 | exact U3 | exact U4 | exact U5 | exact U6 | exact U7 | exact U8 | exact U9 | exact U10 | exact U11 | exact U12 | exact U13 | exact U14 | exact U15 | exact U16 | exact U17 | exact U18 | exact U19 | exact U20 | exact U21 | exact U22 | exact U23) (by rfl) ?_)
                                              refine SPL_nil ?_
                                              refine thenP_n ?_
                                              refine SP_ret ?_
                                              refine thenP_ret (inBlockP_ret (bodyP_ret (H' := [List.flatten [blk x.b 142 [ptr x.nb, ptr x.tb, Value.slice x.na m0.nodes.length x.nc, I m0.root, Value.slice ca m0.clos.length cc, Value.slice (some ⟨hk, 0, none⟩) m0.ths.length hc', I s0, I s1, I s2, I s3, I s4, I m0.sp, I (c : Int), I m0.fuel, I m0.first, S m0.out, .bool m0.done, I m0.ans.e, I m0.ans.n, I m0.ans.m, S m0.ans.s, S m0.ans.t], sX, blk hk 149 (hb.map ptr ++ hsp), sA, List.flatten [blk (hb.getD c 0) 152 [I m0.ths[c].st, I m0.ths[c].fn, I (m0.ths[c].depth), Value.slice ta (m0.ths[c].tasks.length) tc, Value.slice va (m0.ths[c].vals.length - 2) vc], sa, sv], sZ, R]]) (Res0 rfl) (by repeat (first | exact Part.nil _ | (apply Part.cons; with_reducible (first | exact P0 | exact P1 | exact P2 | exact P3 | exact P4 | exact P5 | exact P6 | exact P7 | exact P8 | exact P9 | exact P10 | exact P11 | exact P12 | exact P13 | exact P14 | exact P15 | exact P16 | exact P17 | exact P18 | exact P19 | exact P20 | exact P21 | exact P22 | exact P23)) | (apply Part.flat; simp only [List.cons_append, List.nil_append]) | (apply Part.cons; (first | exact P0 | exact P1 | exact P2 | exact P3 | exact P4 | exact P5 | exact P6 | exact P7 | exact P8 | exact P9 | exact P10 | exact P11 | exact P12 | exact P13 | exact P14 | exact P15 | exact P16 | exact P17 | exact P18 | exact P19 | exact P20 | exact P21 | exact P22 | exact P23)) | (apply Part.nilc))) ?_))
                                              refine ⟨rfl, eb, hb, _, Gr.refl _ _, hput (rset m0 { m0.ths[c] with vals := m0.ths[c].vals.take (m0.ths[c].vals.length - 2) }) s0 s1 s2 s3 s4 ({ m0.ths[c] with vals := m0.ths[c].vals.take (m0.ths[c].vals.length - 2) }) ta tc va vc sa sv (m0.ths[c].tasks.length) (m0.ths[c].vals.length - 2) rfl rfl rfl ?_ rfl rfl hstk rfl (by simp) (hTA) ((by have := hVA.cut (j := m0.ths[c].vals.length - 2) (by omega); rwa [flat_tk1 valV_len] at this)) (hTS), ?_⟩
                                              · unfold rset; rw [hcc]; rfl
                                              · rw [← hcc]; rfl
                                          intro h92_2
                                          first | rw [if_neg h92_2] at hP | rw [if_pos (Decidable.not_not.1 h92_2)] at hP | skip
                                          as_aux_lemma =>
                                            refine SPL_nil ?_
                                            refine thenP_n ?_
                                            refine SP_cond_f rfl ?_
                                            refine SP_skip ?_
                                            refine thenP_n ?_
                                            refine SP_seq ?_
                                            obtain ⟨m1, hq1, hP⟩ := bnd1 hP
                                            obtain rfl := rputV_some hq1 hcc hc
                                            obtain ⟨ca, cc, hk, hc', hsp, s0, s1, s2, s3, s4, sX, sA, sZ, R, ta, tc, va, vc, sa, sv, rfl, hstk, hhl, hTA, hVA, hTS, hput⟩ := isRm_open hM0 hc
                                            refine SP_openAt [blk x.b 142 [ptr x.nb, ptr x.tb, Value.slice x.na m0.nodes.length x.nc, I m0.root, Value.slice ca m0.clos.length cc, Value.slice (some ⟨hk, 0, none⟩) m0.ths.length hc', I s0, I s1, I s2, I s3, I s4, I m0.sp, I m0.cur, I m0.fuel, I m0.first, S m0.out, .bool m0.done, I m0.ans.e, I m0.ans.n, I m0.ans.m, S m0.ans.s, S m0.ans.t], sX, blk hk 149 (hb.map ptr ++ hsp), sA, List.flatten [blk (hb.getD c 0) 152 [I m0.ths[c].st, I m0.ths[c].fn, I (m0.ths[c].depth), Value.slice ta (m0.ths[c].tasks.length) tc, Value.slice va (m0.ths[c].vals.length) vc], sa, sv], sZ, R] (by first | exact P0 | exact P1 | exact P2 | exact P3 | exact P4 | exact P5 | exact P6 | exact P7 | exact P8 | exact P9 | exact P10 | exact P11 | exact P12 | exact P13 | exact P14 | exact P15 | exact P16 | exact P17 | exact P18 | exact P19 | exact P20 | exact P21 | exact P22 | exact P23) ?_
                                            simp only [List.cons_append, List.nil_append]
                                            refine SP_openAt [blk (hb.getD c 0) 152 [I m0.ths[c].st, I m0.ths[c].fn, I (m0.ths[c].depth), Value.slice ta (m0.ths[c].tasks.length) tc, Value.slice va (m0.ths[c].vals.length) vc], sa, sv] (by first | exact P0 | exact P1 | exact P2 | exact P3 | exact P4 | exact P5 | exact P6 | exact P7 | exact P8 | exact P9 | exact P10 | exact P11 | exact P12 | exact P13 | exact P14 | exact P15 | exact P16 | exact P17 | exact P18 | exact P19 | exact P20 | exact P21 | exact P22 | exact P23) ?_
                                            simp only [List.cons_append, List.nil_append]
                                            have hcell : ∀ H : Hp, Cell (blk hk 149 (hb.map ptr ++ hsp) :: H) hk (0 + ((c : Nat) : Int).toNat * 1) (ptr (hb.getD c 0)) := fun H => Cell.head (hb_at hhl hc)
                                            rw [hcc]
                                            clear hVs hVc hCva hCvb hTva hTvb
                                            obtain ⟨vk, vsp, rfl, hvc, hvsp, rfl⟩ := hVA.row (by omega)
                                            refine SP_draw 8 [(0, 0), (1, 0), (2, 0), (4, 0), (5, 0), (3, 1), (6, 1), (7, 0), (8, 3)] mixed (by kernel_rfl) (fun _ _ _ _ _ h => h) (Part.refl _) ?_
                                            refine SPO_p rfl (y_move rfl) rfl ?_
                                            refine SPO_p rfl (y_nil rfl) rfl ?_
                                            refine SPO_p rfl (y_fa fld_152_4 rfl) rfl ?_
                                            refine SPO_p rfl (y_move rfl) rfl ?_
                                            refine SPO_p rfl (y_sub rfl rfl (by omega)) rfl ?_
                                            rw [show ((m0.ths[c].vals.length : Nat) : Int) - 1 = ((m0.ths[c].vals.length - 1 : Nat) : Int) by omega]
                                            refine SPO_h rfl (y_load Tryz.isAgg90 rfl (by repeat (first | exact Cell.amid hpre rfl | exact Cell.head rfl | apply Cell.tail))) rfl ?_
                                            refine SPO_h rfl (y_loads Tryz.isAgg42 Tryz.sizeOf42 rfl rfl (by repeat (first | exact Cells.all _ | exact Cells.amid hpre rfl (by decide) | exact Cells.head rfl | apply Cells.tail))) rfl ?_
                                            refine SPO_p rfl (y_ia Tryz.underlying90 Tryz.sizeOf42 rfl rfl (by omega)) rfl ?_
                                            refine SPO_z (k := 0) rfl rfl (SP1_storesF (l := m0.ths[c].vals) (x := nx.1) (vs := valV nx.1) (q := 0) (j := ((m0.ths[c].vals.length - 1 : Nat) : Int)) valV_len rfl hivb rfl (by decide) Tryz.sizeOf42 rfl rfl rfl rfl rfl (by first | exact U0 | exact U1 | exact U2 | exact U3 | exact U4 | exact U5 | exact U6 | exact U7 | exact U8 | exact U9 | exact U10 | exact U11 | exact U12 | exact U13 | exact U14 | exact U15 | exact U16 | exact U17 | exact U18 | exact U19 | exact U20 | exact U21 | exact U22 | exact U23) ?_)
                                            refine SPO_nil ?_
                                            refine thenP_n ?_
                                            refine SP_seq ?_
                                            have hM1 : isRm x eb hb (rset m0 { m0.ths[c] with vals := m0.ths[c].vals.set (m0.ths[c].vals.length - 1) nx.1 }) (List.flatten [blk x.b 142 [ptr x.nb, ptr x.tb, Value.slice x.na m0.nodes.length x.nc, I m0.root, Value.slice ca m0.clos.length cc, Value.slice (some ⟨hk, 0, none⟩) m0.ths.length hc', I s0, I s1, I s2, I s3, I s4, I m0.sp, I (c : Int), I m0.fuel, I m0.first, S m0.out, .bool m0.done, I m0.ans.e, I m0.ans.n, I m0.ans.m, S m0.ans.s, S m0.ans.t], sX, blk hk 149 (hb.map ptr ++ hsp), sA, List.flatten [blk (hb.getD c 0) 152 [I m0.ths[c].st, I m0.ths[c].fn, I (m0.ths[c].depth), Value.slice ta (m0.ths[c].tasks.length) tc, Value.slice (some ⟨vk, 0, none⟩) (m0.ths[c].vals.length) vc], sa, (blk vk 42 ((m0.ths[c].vals.set (m0.ths[c].vals.length - 1) nx.1).flatMap valV ++ vsp))], sZ, R]) := by
                                              have := hput (rset m0 { m0.ths[c] with vals := m0.ths[c].vals.set (m0.ths[c].vals.length - 1) nx.1 }) s0 s1 s2 s3 s4 ({ m0.ths[c] with vals := m0.ths[c].vals.set (m0.ths[c].vals.length - 1) nx.1 }) ta tc (some ⟨vk, 0, none⟩) vc sa (blk vk 42 ((m0.ths[c].vals.set (m0.ths[c].vals.length - 1) nx.1).flatMap valV ++ vsp)) (m0.ths[c].tasks.length) (m0.ths[c].vals.length) rfl rfl rfl ?_ rfl rfl hstk rfl (by simp) (hTA) ((Arr.mk (by rw [flat_len valV_len, List.length_set]) hvc hvsp)) (hTS)
                                              · rw [← hcc]; exact this
                                              · unfold rset; rw [hcc]; rfl
                                            refine SP_part (H' := [List.flatten [blk x.b 142 [ptr x.nb, ptr x.tb, Value.slice x.na m0.nodes.length x.nc, I m0.root, Value.slice ca m0.clos.length cc, Value.slice (some ⟨hk, 0, none⟩) m0.ths.length hc', I s0, I s1, I s2, I s3, I s4, I m0.sp, I (c : Int), I m0.fuel, I m0.first, S m0.out, .bool m0.done, I m0.ans.e, I m0.ans.n, I m0.ans.m, S m0.ans.s, S m0.ans.t], sX, blk hk 149 (hb.map ptr ++ hsp), sA, List.flatten [blk (hb.getD c 0) 152 [I m0.ths[c].st, I m0.ths[c].fn, I (m0.ths[c].depth), Value.slice ta (m0.ths[c].tasks.length) tc, Value.slice (some ⟨vk, 0, none⟩) (m0.ths[c].vals.length) vc], sa, (blk vk 42 ((m0.ths[c].vals.set (m0.ths[c].vals.length - 1) nx.1).flatMap valV ++ vsp))], sZ, R], blk b3 206 (tskV eb q), blk b4 158 (ndV d), blk b27 42 (valV nx.1), blk b28 42 (valV nx.2.1)]) (by repeat (first | exact Part.nil _ | (apply Part.cons; with_reducible (first | exact P0 | exact P1 | exact P2 | exact P3 | exact P4 | exact P5 | exact P6 | exact P7 | exact P8 | exact P9 | exact P10 | exact P11 | exact P12 | exact P13 | exact P14 | exact P15 | exact P16 | exact P17 | exact P18 | exact P19 | exact P20 | exact P21 | exact P22 | exact P23)) | (apply Part.flat; simp only [List.cons_append, List.nil_append]) | (apply Part.cons; (first | exact P0 | exact P1 | exact P2 | exact P3 | exact P4 | exact P5 | exact P6 | exact P7 | exact P8 | exact P9 | exact P10 | exact P11 | exact P12 | exact P13 | exact P14 | exact P15 | exact P16 | exact P17 | exact P18 | exact P19 | exact P20 | exact P21 | exact P22 | exact P23)) | (apply Part.nilc))) ?_
                                            obtain ⟨m1, hm1⟩ : ∃ z, rset m0 { m0.ths[c] with vals := m0.ths[c].vals.set (m0.ths[c].vals.length - 1) nx.1 } = z := ⟨_, rfl⟩
                                            rw [hm1] at hP hM1
                                            obtain ⟨sg1, hsg1⟩ : ∃ z, List.flatten [blk x.b 142 [ptr x.nb, ptr x.tb, Value.slice x.na m0.nodes.length x.nc, I m0.root, Value.slice ca m0.clos.length cc, Value.slice (some ⟨hk, 0, none⟩) m0.ths.length hc', I s0, I s1, I s2, I s3, I s4, I m0.sp, I (c : Int), I m0.fuel, I m0.first, S m0.out, .bool m0.done, I m0.ans.e, I m0.ans.n, I m0.ans.m, S m0.ans.s, S m0.ans.t], sX, blk hk 149 (hb.map ptr ++ hsp), sA, List.flatten [blk (hb.getD c 0) 152 [I m0.ths[c].st, I m0.ths[c].fn, I (m0.ths[c].depth), Value.slice ta (m0.ths[c].tasks.length) tc, Value.slice (some ⟨vk, 0, none⟩) (m0.ths[c].vals.length) vc], sa, (blk vk 42 ((m0.ths[c].vals.set (m0.ths[c].vals.length - 1) nx.1).flatMap valV ++ vsp))], sZ, R] = z := ⟨_, rfl⟩
                                            rw [hsg1] at hM1 ⊢
                                            obtain ⟨n1, hnd95, hP⟩ := bnd1 hP
                                            obtain ⟨j95, nk95, hjE95, hj95, hnl95, hnS95, hnC95⟩ := node_at hM1 hnd95
                                            refine SP_draw 9 [(0, 0), (1, 0), (2, 0), (4, 0), (3, 1), (5, 1), (6, 0), (7, 1), (8, 2), (9, 3)] mixed (by kernel_rfl) (fun _ _ _ _ _ h => h) (Part.refl _) ?_
                                            refine SPO_p rfl (y_move rfl) rfl ?_
                                            refine SPO_p rfl (y_nil rfl) rfl ?_
                                            refine SPO_p rfl (y_fa fld_142_2 rfl) rfl ?_
                                            refine SPO_p rfl (y_fa fld_158_1 rfl) rfl ?_
                                            refine SPO_h rfl (y_load Tryz.isAgg65 rfl (by repeat (first | exact hnS95 _ | apply Cell.tail))) rfl ?_
                                            refine SPO_h rfl (y_load Tryz.isAgg3 rfl (by repeat (first | exact Cell.amid hpre rfl | exact Cell.head rfl | apply Cell.tail))) rfl ?_
                                            rw [hjE95]
                                            refine SPO_p rfl (y_ia Tryz.underlying65 Tryz.sizeOf158 rfl rfl (by omega)) rfl ?_
                                            refine SPO_h rfl (y_loads Tryz.isAgg158 Tryz.sizeOf158 rfl rfl (by repeat (first | exact hnC95 _ | apply Cells.tail))) rfl ?_
                                            refine SPO_a rfl rfl (SP1_alloc Tryz.zeroValue158 rfl rfl ?_)
                                            intro b30
                                            refine ⟨⟨_, (by repeat (first | exact Part.nil _ | (apply Part.cons; with_reducible (first | exact P0 | exact P1 | exact P2 | exact P3 | exact P4 | exact P5 | exact P6 | exact P7 | exact P8 | exact P9 | exact P10 | exact P11 | exact P12 | exact P13 | exact P14 | exact P15 | exact P16 | exact P17 | exact P18 | exact P19 | exact P20 | exact P21 | exact P22 | exact P23)) | (apply Part.flat; simp only [List.cons_append, List.nil_append]) | (apply Part.cons; (first | exact P0 | exact P1 | exact P2 | exact P3 | exact P4 | exact P5 | exact P6 | exact P7 | exact P8 | exact P9 | exact P10 | exact P11 | exact P12 | exact P13 | exact P14 | exact P15 | exact P16 | exact P17 | exact P18 | exact P19 | exact P20 | exact P21 | exact P22 | exact P23)) | (apply Part.nilc)))⟩, ?_⟩
                                            refine SPO_z (k := 0) rfl rfl (SP1_storeAll Tryz.sizeOf158 rfl rfl rfl rfl rfl (by first | exact U0 | exact U1 | exact U2 | exact U3 | exact U4 | exact U5 | exact U6 | exact U7 | exact U8 | exact U9 | exact U10 | exact U11 | exact U12 | exact U13 | exact U14 | exact U15 | exact U16 | exact U17 | exact U18 | exact U19 | exact U20 | exact U21 | exact U22 | exact U23) (by rfl) ?_)
                                            refine SPO_nil ?_
                                            refine thenP_n ?_
                                            refine SP_seq ?_
                                            obtain ⟨n2, hnd96, hP⟩ := bnd1 hP
                                            obtain ⟨j96, nk96, hjE96, hj96, hnl96, hnS96, hnC96⟩ := node_at hM1 hnd96
                                            refine SP_draw 9 [(0, 0), (1, 0), (2, 0), (4, 0), (3, 1), (5, 1), (6, 0), (7, 1), (8, 2), (9, 3)] mixed (by kernel_rfl) (fun _ _ _ _ _ h => h) (Part.refl _) ?_
                                            refine SPO_p rfl (y_move rfl) rfl ?_
                                            refine SPO_p rfl (y_nil rfl) rfl ?_
                                            refine SPO_p rfl (y_fa fld_142_2 rfl) rfl ?_
                                            refine SPO_p rfl (y_fa fld_158_4 rfl) rfl ?_
                                            refine SPO_h rfl (y_load Tryz.isAgg65 rfl (by repeat (first | exact hnS96 _ | apply Cell.tail))) rfl ?_
                                            refine SPO_h rfl (y_load Tryz.isAgg3 rfl (by repeat (first | exact Cell.amid hpre rfl | exact Cell.head rfl | apply Cell.tail))) rfl ?_
                                            rw [hjE96]
                                            refine SPO_p rfl (y_ia Tryz.underlying65 Tryz.sizeOf158 rfl rfl (by omega)) rfl ?_
                                            refine SPO_h rfl (y_loads Tryz.isAgg158 Tryz.sizeOf158 rfl rfl (by repeat (first | exact hnC96 _ | apply Cells.tail))) rfl ?_
                                            refine SPO_a rfl rfl (SP1_alloc Tryz.zeroValue158 rfl rfl ?_)
                                            intro b31
                                            refine ⟨⟨_, (by repeat (first | exact Part.nil _ | (apply Part.cons; with_reducible (first | exact P0 | exact P1 | exact P2 | exact P3 | exact P4 | exact P5 | exact P6 | exact P7 | exact P8 | exact P9 | exact P10 | exact P11 | exact P12 | exact P13 | exact P14 | exact P15 | exact P16 | exact P17 | exact P18 | exact P19 | exact P20 | exact P21 | exact P22 | exact P23)) | (apply Part.flat; simp only [List.cons_append, List.nil_append]) | (apply Part.cons; (first | exact P0 | exact P1 | exact P2 | exact P3 | exact P4 | exact P5 | exact P6 | exact P7 | exact P8 | exact P9 | exact P10 | exact P11 | exact P12 | exact P13 | exact P14 | exact P15 | exact P16 | exact P17 | exact P18 | exact P19 | exact P20 | exact P21 | exact P22 | exact P23)) | (apply Part.nilc)))⟩, ?_⟩
                                            refine SPO_z (k := 0) rfl rfl (SP1_storeAll Tryz.sizeOf158 rfl rfl rfl rfl rfl (by first | exact U0 | exact U1 | exact U2 | exact U3 | exact U4 | exact U5 | exact U6 | exact U7 | exact U8 | exact U9 | exact U10 | exact U11 | exact U12 | exact U13 | exact U14 | exact U15 | exact U16 | exact U17 | exact U18 | exact U19 | exact U20 | exact U21 | exact U22 | exact U23) (by rfl) ?_)
                                            refine SPO_nil ?_
                                            refine thenP_n ?_
                                            refine SP_seq ?_
                                            refine SP_region ?_
                                            refine SPL_y (y_fa fld_158_6 rfl) rfl ?_
                                            refine SPL_y (y_load Tryz.isAgg9 rfl (by repeat (first | exact Cell.amid hpre rfl | exact Cell.head rfl | apply Cell.tail))) rfl ?_
                                            refine SPL_y (y_loads Tryz.isAgg42 Tryz.sizeOf42 rfl rfl (by repeat (first | exact Cells.all _ | exact Cells.amid hpre rfl (by decide) | exact Cells.head rfl | apply Cells.tail))) rfl ?_
                                            refine SPL_y (y_fa fld_206_3 rfl) rfl ?_
                                            refine SPL_y (y_load Tryz.isAgg146 rfl (by repeat (first | exact Cell.amid hpre rfl | exact Cell.head rfl | apply Cell.tail))) rfl ?_
                                            refine SPL_y (y_buildN (l := [S n1.s, I nx.1.t, .int .u64 nx.1.n, S nx.1.s, ePt eb q.e]) BN204 rfl (fill_env3 _ nx.1 _)) rfl ?_
                                            refine SPL_one rfl (SP1_box rfl rfl rfl ?_)
                                            intro b639
                                            refine SPL_y (y_assign rfl) rfl ?_
                                            refine SPL_nil ?_
                                            refine thenP_n ?_
                                            refine SP_seq ?_
                                            obtain ⟨i2, m2, hq2, hP⟩ := bnd2 hP
                                            obtain ⟨rfl, rfl, hes2⟩ := newE_some hq2
                                            have hel2 := hM1.sc.el
                                            obtain ⟨sg2, hM2, hpt2⟩ := isRm_new hM1 b639 (e := ⟨n1.s, nx.1, q.e⟩) (fun i hi => by rw [hel2]; exact hes2 i hi)
                                            refine SP_part (H' := [sg1, blk b639 204 (evV eb ⟨n1.s, nx.1, q.e⟩), blk b3 206 (tskV eb q), blk b4 158 (ndV d), blk b27 42 (valV nx.1), blk b28 42 (valV nx.2.1), blk b30 158 (ndV n1), blk b31 158 (ndV n2)]) (by repeat (first | exact Part.nil _ | (apply Part.cons; with_reducible (first | exact P0 | exact P1 | exact P2 | exact P3 | exact P4 | exact P5 | exact P6 | exact P7 | exact P8 | exact P9 | exact P10 | exact P11 | exact P12 | exact P13 | exact P14 | exact P15 | exact P16 | exact P17 | exact P18 | exact P19 | exact P20 | exact P21 | exact P22 | exact P23)) | (apply Part.flat; simp only [List.cons_append, List.nil_append]) | (apply Part.cons; (first | exact P0 | exact P1 | exact P2 | exact P3 | exact P4 | exact P5 | exact P6 | exact P7 | exact P8 | exact P9 | exact P10 | exact P11 | exact P12 | exact P13 | exact P14 | exact P15 | exact P16 | exact P17 | exact P18 | exact P19 | exact P20 | exact P21 | exact P22 | exact P23)) | (apply Part.nilc))) ?_
                                            refine SP_part (hpt2 [blk b3 206 (tskV eb q), blk b4 158 (ndV d), blk b27 42 (valV nx.1), blk b28 42 (valV nx.2.1), blk b30 158 (ndV n1), blk b31 158 (ndV n2)]) ?_
                                            rw [newPt (eb := eb) hel2]
                                            refine SP_region ?_
                                            refine SPL_y (y_move rfl) rfl ?_
                                            refine SPL_y (y_fa fld_206_1 rfl) rfl ?_
                                            refine SPL_y (y_load Tryz.isAgg3 rfl (by repeat (first | exact Cell.amid hpre rfl | exact Cell.head rfl | apply Cell.tail))) rfl ?_
                                            refine SPL_y (y_fa fld_206_3 rfl) rfl ?_
                                            refine SPL_y (y_load Tryz.isAgg146 rfl (by repeat (first | exact Cell.amid hpre rfl | exact Cell.head rfl | apply Cell.tail))) rfl ?_
                                            obtain ⟨m3, hq3, hP⟩ := bnd1 hP
                                            refine SPL_one rfl (SP1_call ((by have := cm_do x (eb ++ [b639]) hb hq3 _ hM2; rwa [ePt_app b639 hqe] at this)) Tryz.call95 rfl rfl (by repeat (first | exact Part.nil _ | (apply Part.cons; with_reducible (first | exact P0 | exact P1 | exact P2 | exact P3 | exact P4 | exact P5 | exact P6 | exact P7 | exact P8 | exact P9 | exact P10 | exact P11 | exact P12 | exact P13 | exact P14 | exact P15 | exact P16 | exact P17 | exact P18 | exact P19 | exact P20 | exact P21 | exact P22 | exact P23)) | (apply Part.flat; simp only [List.cons_append, List.nil_append]) | (apply Part.cons; (first | exact P0 | exact P1 | exact P2 | exact P3 | exact P4 | exact P5 | exact P6 | exact P7 | exact P8 | exact P9 | exact P10 | exact P11 | exact P12 | exact P13 | exact P14 | exact P15 | exact P16 | exact P17 | exact P18 | exact P19 | exact P20 | exact P21 | exact P22 | exact P23)) | (apply Part.nilc))) ?_)
                                            rintro v post H' ⟨rfl, sg3, hM3, rfl⟩ hH
                                            try simp only [List.cons_append, List.nil_append] at hH
                                            subst hH
                                            refine SPL_nil ?_
                                            refine thenP_n ?_
                                            refine SP_region ?_
                                            refine SPL_y (y_move rfl) rfl ?_
                                            refine SPL_y (y_fa fld_158_3 rfl) rfl ?_
                                            refine SPL_y (y_load Tryz.isAgg3 rfl (by repeat (first | exact Cell.amid hpre rfl | exact Cell.head rfl | apply Cell.tail))) rfl ?_
                                            refine SPL_y (y_fa fld_158_6 rfl) rfl ?_
                                            refine SPL_y (y_load Tryz.isAgg9 rfl (by repeat (first | exact Cell.amid hpre rfl | exact Cell.head rfl | apply Cell.tail))) rfl ?_
                                            refine SPL_y (y_loads Tryz.isAgg42 Tryz.sizeOf42 rfl rfl (by repeat (first | exact Cells.all _ | exact Cells.amid hpre rfl (by decide) | exact Cells.head rfl | apply Cells.tail))) rfl ?_
                                            refine SPL_y (y_move rfl) rfl ?_
                                            refine SPL_y (y_buildN (l := [S n2.s, I nx.2.1.t, .int .u64 nx.2.1.n, S nx.2.1.s, ePt (eb ++ [b639]) (some m1.envs.length)]) BN204 rfl (fill_env3 _ nx.2.1 _)) rfl ?_
                                            refine SPL_one rfl (SP1_box rfl rfl rfl ?_)
                                            intro b654
                                            obtain ⟨i4, m4, hq4, hP⟩ := bnd2 hP
                                            obtain ⟨rfl, rfl, hes4⟩ := newE_some hq4
                                            have hel4 := hM3.sc.el
                                            obtain ⟨sg4, hM4, hpt4⟩ := isRm_new hM3 b654 (e := ⟨n2.s, nx.2.1, (some m1.envs.length)⟩) (fun i hi => by rw [hel4]; exact hes4 i hi)
                                            refine SPL_part (H' := [sg3, blk b654 204 (evV (eb ++ [b639]) ⟨n2.s, nx.2.1, (some m1.envs.length)⟩), blk b3 206 (tskV eb q), blk b4 158 (ndV d), blk b27 42 (valV nx.1), blk b28 42 (valV nx.2.1), blk b30 158 (ndV n1), blk b31 158 (ndV n2)]) (by repeat (first | exact Part.nil _ | (apply Part.cons; with_reducible (first | exact P0 | exact P1 | exact P2 | exact P3 | exact P4 | exact P5 | exact P6 | exact P7 | exact P8 | exact P9 | exact P10 | exact P11 | exact P12 | exact P13 | exact P14 | exact P15 | exact P16 | exact P17 | exact P18 | exact P19 | exact P20 | exact P21 | exact P22 | exact P23)) | (apply Part.flat; simp only [List.cons_append, List.nil_append]) | (apply Part.cons; (first | exact P0 | exact P1 | exact P2 | exact P3 | exact P4 | exact P5 | exact P6 | exact P7 | exact P8 | exact P9 | exact P10 | exact P11 | exact P12 | exact P13 | exact P14 | exact P15 | exact P16 | exact P17 | exact P18 | exact P19 | exact P20 | exact P21 | exact P22 | exact P23)) | (apply Part.nilc))) ?_
                                            refine SPL_part (hpt4 [blk b3 206 (tskV eb q), blk b4 158 (ndV d), blk b27 42 (valV nx.1), blk b28 42 (valV nx.2.1), blk b30 158 (ndV n1), blk b31 158 (ndV n2)]) ?_
                                            rw [newPt (eb := (eb ++ [b639])) hel4]
                                            refine SPL_one rfl (SP1_call (cm_do x (eb ++ [b639] ++ [b654]) hb hP _ hM4) Tryz.call95 rfl rfl (by repeat (first | exact Part.nil _ | (apply Part.cons; with_reducible (first | exact P0 | exact P1 | exact P2 | exact P3 | exact P4 | exact P5 | exact P6 | exact P7 | exact P8 | exact P9 | exact P10 | exact P11 | exact P12 | exact P13 | exact P14 | exact P15 | exact P16 | exact P17 | exact P18 | exact P19 | exact P20 | exact P21 | exact P22 | exact P23)) | (apply Part.flat; simp only [List.cons_append, List.nil_append]) | (apply Part.cons; (first | exact P0 | exact P1 | exact P2 | exact P3 | exact P4 | exact P5 | exact P6 | exact P7 | exact P8 | exact P9 | exact P10 | exact P11 | exact P12 | exact P13 | exact P14 | exact P15 | exact P16 | exact P17 | exact P18 | exact P19 | exact P20 | exact P21 | exact P22 | exact P23)) | (apply Part.nilc))) ?_)
                                            rintro v post H' ⟨rfl, sg9, hM9, rfl⟩ hH
                                            try simp only [List.cons_append, List.nil_append] at hH
                                            subst hH
                                            refine SPL_nil ?_
                                            refine inBlockP_n ?_
                                            refine bodyP_end (H' := [sg9]) (Res0 rfl) (by repeat (first | exact Part.nil _ | (apply Part.cons; with_reducible (first | exact P0 | exact P1 | exact P2 | exact P3 | exact P4 | exact P5 | exact P6 | exact P7 | exact P8 | exact P9 | exact P10 | exact P11 | exact P12 | exact P13 | exact P14 | exact P15 | exact P16 | exact P17 | exact P18 | exact P19 | exact P20 | exact P21 | exact P22 | exact P23)) | (apply Part.flat; simp only [List.cons_append, List.nil_append]) | (apply Part.cons; (first | exact P0 | exact P1 | exact P2 | exact P3 | exact P4 | exact P5 | exact P6 | exact P7 | exact P8 | exact P9 | exact P10 | exact P11 | exact P12 | exact P13 | exact P14 | exact P15 | exact P16 | exact P17 | exact P18 | exact P19 | exact P20 | exact P21 | exact P22 | exact P23)) | (apply Part.nilc))) ?_
                                            exact ⟨rfl, (eb ++ [b639] ++ [b654]), hb, _, ⟨(List.prefix_append _ _).trans (List.prefix_append _ _), List.prefix_refl _⟩, hM9, rfl⟩
                                      intro h89_0
                                      first | rw [if_neg h89_0] at hP | rw [if_pos (Decidable.not_not.1 h89_0)] at hP | skip
                                      as_aux_lemma =>
                                        refine SPL_y (y_assign rfl) rfl ?_
                                        refine SPL_nil ?_
                                        refine thenP_n ?_
                                        refine SP_cond_f rfl ?_
                                        refine SP_seq ?_
                                        refine SP_region ?_
                                        refine SPL_if (y_eql rfl rfl) rfl ?_ ?_
                                        · intro h100_0
                                          first | rw [if_pos h100_0] at hP | rw [if_neg h100_0] at hP | skip
                                          as_aux_lemma =>
                                            refine SPL_y (y_assign rfl) rfl ?_
                                            refine SPL_nil ?_
                                            refine thenP_n ?_
                                            refine SP_cond_t rfl ?_
                                            refine SP_seq ?_
                                            refine SP_region ?_
                                            refine SPL_y (y_move rfl) rfl ?_
                                            unfold kBack at hP
                                            obtain ⟨ok, m1, hq1, hP⟩ := bnd2 hP
                                            refine SPL_one rfl (SP1_call (cm_burn x eb hb hq1 _ hM0) Tryz.call103 rfl rfl (by repeat (first | exact Part.nil _ | (apply Part.cons; with_reducible (first | exact P0 | exact P1 | exact P2 | exact P3 | exact P4 | exact P5 | exact P6 | exact P7 | exact P8 | exact P9 | exact P10 | exact P11 | exact P12 | exact P13 | exact P14 | exact P15 | exact P16 | exact P17 | exact P18 | exact P19 | exact P20 | exact P21 | exact P22 | exact P23)) | (apply Part.flat; simp only [List.cons_append, List.nil_append]) | (apply Part.cons; (first | exact P0 | exact P1 | exact P2 | exact P3 | exact P4 | exact P5 | exact P6 | exact P7 | exact P8 | exact P9 | exact P10 | exact P11 | exact P12 | exact P13 | exact P14 | exact P15 | exact P16 | exact P17 | exact P18 | exact P19 | exact P20 | exact P21 | exact P22 | exact P23)) | (apply Part.nilc))) ?_)
                                            rintro v post H' ⟨rfl, sg1, hM1, rfl⟩ hH
                                            rcases ok with _ | _
                                            · try simp only [List.cons_append, List.nil_append] at hH
                                              subst hH
                                              try dsimp only [cond_true, cond_false, Bool.true_or, Bool.false_or] at hP
                                              refine SPL_nil ?_
                                              refine thenP_n ?_
                                              refine SP_cond_f rfl ?_
                                              refine SP_skip ?_
                                              refine inBlockP_n ?_
                                              refine bodyP_end (H' := [sg1]) (Res0 rfl) (by repeat (first | exact Part.nil _ | (apply Part.cons; with_reducible (first | exact P0 | exact P1 | exact P2 | exact P3 | exact P4 | exact P5 | exact P6 | exact P7 | exact P8 | exact P9 | exact P10 | exact P11 | exact P12 | exact P13 | exact P14 | exact P15 | exact P16 | exact P17 | exact P18 | exact P19 | exact P20 | exact P21 | exact P22 | exact P23)) | (apply Part.flat; simp only [List.cons_append, List.nil_append]) | (apply Part.cons; (first | exact P0 | exact P1 | exact P2 | exact P3 | exact P4 | exact P5 | exact P6 | exact P7 | exact P8 | exact P9 | exact P10 | exact P11 | exact P12 | exact P13 | exact P14 | exact P15 | exact P16 | exact P17 | exact P18 | exact P19 | exact P20 | exact P21 | exact P22 | exact P23)) | (apply Part.nilc))) ?_
                                              rw [if_neg (by decide)] at hP
                                              injection hP with hP
                                              subst hP
                                              exact ⟨rfl, eb, hb, _, Gr.refl _ _, hM1, rfl⟩
                                            · try simp only [List.cons_append, List.nil_append] at hH
                                              subst hH
                                              try dsimp only [cond_true, cond_false, Bool.true_or, Bool.false_or] at hP
                                              refine SPL_nil ?_
                                              refine thenP_n ?_
                                              refine SP_cond_t rfl ?_
                                              rw [if_pos rfl] at hP
                                              refine SP_region ?_
                                              refine SPL_y (y_move rfl) rfl ?_
                                              refine SPL_y (y_fa fld_206_1 rfl) rfl ?_
                                              refine SPL_y (y_load Tryz.isAgg3 rfl (by repeat (first | exact Cell.amid hpre rfl | exact Cell.head rfl | apply Cell.tail))) rfl ?_
                                              refine SPL_y (y_fa fld_206_3 rfl) rfl ?_
                                              refine SPL_y (y_load Tryz.isAgg146 rfl (by repeat (first | exact Cell.amid hpre rfl | exact Cell.head rfl | apply Cell.tail))) rfl ?_
                                              refine SPL_one rfl (SP1_call (cm_do x eb hb hP _ hM1) Tryz.call95 rfl rfl (by repeat (first | exact Part.nil _ | (apply Part.cons; with_reducible (first | exact P0 | exact P1 | exact P2 | exact P3 | exact P4 | exact P5 | exact P6 | exact P7 | exact P8 | exact P9 | exact P10 | exact P11 | exact P12 | exact P13 | exact P14 | exact P15 | exact P16 | exact P17 | exact P18 | exact P19 | exact P20 | exact P21 | exact P22 | exact P23)) | (apply Part.flat; simp only [List.cons_append, List.nil_append]) | (apply Part.cons; (first | exact P0 | exact P1 | exact P2 | exact P3 | exact P4 | exact P5 | exact P6 | exact P7 | exact P8 | exact P9 | exact P10 | exact P11 | exact P12 | exact P13 | exact P14 | exact P15 | exact P16 | exact P17 | exact P18 | exact P19 | exact P20 | exact P21 | exact P22 | exact P23)) | (apply Part.nilc))) ?_)
                                              rintro v post H' ⟨rfl, sg9, hM9, rfl⟩ hH
                                              try simp only [List.cons_append, List.nil_append] at hH
                                              subst hH
                                              refine SPL_nil ?_
                                              refine inBlockP_n ?_
                                              refine bodyP_end (H' := [sg9]) (Res0 rfl) (by repeat (first | exact Part.nil _ | (apply Part.cons; with_reducible (first | exact P0 | exact P1 | exact P2 | exact P3 | exact P4 | exact P5 | exact P6 | exact P7 | exact P8 | exact P9 | exact P10 | exact P11 | exact P12 | exact P13 | exact P14 | exact P15 | exact P16 | exact P17 | exact P18 | exact P19 | exact P20 | exact P21 | exact P22 | exact P23)) | (apply Part.flat; simp only [List.cons_append, List.nil_append]) | (apply Part.cons; (first | exact P0 | exact P1 | exact P2 | exact P3 | exact P4 | exact P5 | exact P6 | exact P7 | exact P8 | exact P9 | exact P10 | exact P11 | exact P12 | exact P13 | exact P14 | exact P15 | exact P16 | exact P17 | exact P18 | exact P19 | exact P20 | exact P21 | exact P22 | exact P23)) | (apply Part.nilc))) ?_
                                              exact ⟨rfl, eb, hb, _, Gr.refl _ _, hM9, rfl⟩
                                        intro h100_0
                                        first | rw [if_neg h100_0] at hP | rw [if_pos (Decidable.not_not.1 h100_0)] at hP | skip
                                        as_aux_lemma =>
                                          refine SPL_y (y_assign rfl) rfl ?_
                                          refine SPL_nil ?_
                                          refine thenP_n ?_
                                          refine SP_cond_f rfl ?_
                                          refine SP_seq ?_
                                          refine SP_region ?_
                                          refine SPL_if (y_eql rfl rfl) rfl ?_ ?_
                                          · intro h103_0
                                            first | rw [if_pos h103_0] at hP | rw [if_neg h103_0] at hP | skip
                                            as_aux_lemma =>
                                              refine SPL_y (y_assign rfl) rfl ?_
                                              refine SPL_nil ?_
                                              refine thenP_n ?_
                                              refine SP_cond_t rfl ?_
                                              refine SP_seq ?_
                                              refine SP_region ?_
                                              refine SPL_y (y_move rfl) rfl ?_
                                              obtain ⟨v1, m1, hq1, hP⟩ := bnd2 hP
                                              refine SPL_one rfl (SP1_call (cm_pop x eb hb hq1 _ hM0) Tryz.call99 rfl rfl (by repeat (first | exact Part.nil _ | (apply Part.cons; with_reducible (first | exact P0 | exact P1 | exact P2 | exact P3 | exact P4 | exact P5 | exact P6 | exact P7 | exact P8 | exact P9 | exact P10 | exact P11 | exact P12 | exact P13 | exact P14 | exact P15 | exact P16 | exact P17 | exact P18 | exact P19 | exact P20 | exact P21 | exact P22 | exact P23)) | (apply Part.flat; simp only [List.cons_append, List.nil_append]) | (apply Part.cons; (first | exact P0 | exact P1 | exact P2 | exact P3 | exact P4 | exact P5 | exact P6 | exact P7 | exact P8 | exact P9 | exact P10 | exact P11 | exact P12 | exact P13 | exact P14 | exact P15 | exact P16 | exact P17 | exact P18 | exact P19 | exact P20 | exact P21 | exact P22 | exact P23)) | (apply Part.nilc))) ?_)
                                              rintro v post H' ⟨rfl, sg1, hM1, rfl⟩ hH
                                              try simp only [List.cons_append, List.nil_append] at hH
                                              subst hH
                                              refine SPL_one rfl (SP1_alloc Tryz.zeroValue42 rfl rfl ?_)
                                              intro b33
                                              refine SPL_one rfl (SP1_storeAll Tryz.sizeOf42 rfl rfl rfl rfl rfl (by first | exact U0 | exact U1 | exact U2 | exact U3 | exact U4 | exact U5 | exact U6 | exact U7 | exact U8 | exact U9 | exact U10 | exact U11 | exact U12 | exact U13 | exact U14 | exact U15 | exact U16 | exact U17 | exact U18 | exact U19 | exact U20 | exact U21 | exact U22 | exact U23) (by rfl) ?_)
                                              refine SPL_nil ?_
                                              refine thenP_n ?_
                                              refine SP_seq ?_
                                              refine SP_region ?_
                                              refine SPL_y (y_move rfl) rfl ?_
                                              obtain ⟨v2, m2, hq2, hP⟩ := bnd2 hP
                                              refine SPL_one rfl (SP1_call (cm_pop x eb hb hq2 _ hM1) Tryz.call99 rfl rfl (by repeat (first | exact Part.nil _ | (apply Part.cons; with_reducible (first | exact P0 | exact P1 | exact P2 | exact P3 | exact P4 | exact P5 | exact P6 | exact P7 | exact P8 | exact P9 | exact P10 | exact P11 | exact P12 | exact P13 | exact P14 | exact P15 | exact P16 | exact P17 | exact P18 | exact P19 | exact P20 | exact P21 | exact P22 | exact P23)) | (apply Part.flat; simp only [List.cons_append, List.nil_append]) | (apply Part.cons; (first | exact P0 | exact P1 | exact P2 | exact P3 | exact P4 | exact P5 | exact P6 | exact P7 | exact P8 | exact P9 | exact P10 | exact P11 | exact P12 | exact P13 | exact P14 | exact P15 | exact P16 | exact P17 | exact P18 | exact P19 | exact P20 | exact P21 | exact P22 | exact P23)) | (apply Part.nilc))) ?_)
                                              rintro v post H' ⟨rfl, sg2, hM2, rfl⟩ hH
                                              try simp only [List.cons_append, List.nil_append] at hH
                                              subst hH
                                              refine SPL_one rfl (SP1_alloc Tryz.zeroValue42 rfl rfl ?_)
                                              intro b34
                                              refine SPL_one rfl (SP1_storeAll Tryz.sizeOf42 rfl rfl rfl rfl rfl (by first | exact U0 | exact U1 | exact U2 | exact U3 | exact U4 | exact U5 | exact U6 | exact U7 | exact U8 | exact U9 | exact U10 | exact U11 | exact U12 | exact U13 | exact U14 | exact U15 | exact U16 | exact U17 | exact U18 | exact U19 | exact U20 | exact U21 | exact U22 | exact U23) (by rfl) ?_)
                                              refine SPL_nil ?_
                                              refine thenP_n ?_
                                              refine SP_region ?_
                                              refine SPL_y (y_move rfl) rfl ?_
                                              refine SPL_y (y_loads Tryz.isAgg42 Tryz.sizeOf42 rfl rfl (by repeat (first | exact Cells.all _ | exact Cells.amid hpre rfl (by decide) | exact Cells.head rfl | apply Cells.tail))) rfl ?_
                                              refine SPL_y (y_loads Tryz.isAgg42 Tryz.sizeOf42 rfl rfl (by repeat (first | exact Cells.all _ | exact Cells.amid hpre rfl (by decide) | exact Cells.head rfl | apply Cells.tail))) rfl ?_
                                              refine SPL_one rfl (SP1_call (cm_ret x eb hb v2 v1 hP _ hM2) Tryz.call98 rfl rfl (by repeat (first | exact Part.nil _ | (apply Part.cons; with_reducible (first | exact P0 | exact P1 | exact P2 | exact P3 | exact P4 | exact P5 | exact P6 | exact P7 | exact P8 | exact P9 | exact P10 | exact P11 | exact P12 | exact P13 | exact P14 | exact P15 | exact P16 | exact P17 | exact P18 | exact P19 | exact P20 | exact P21 | exact P22 | exact P23)) | (apply Part.flat; simp only [List.cons_append, List.nil_append]) | (apply Part.cons; (first | exact P0 | exact P1 | exact P2 | exact P3 | exact P4 | exact P5 | exact P6 | exact P7 | exact P8 | exact P9 | exact P10 | exact P11 | exact P12 | exact P13 | exact P14 | exact P15 | exact P16 | exact P17 | exact P18 | exact P19 | exact P20 | exact P21 | exact P22 | exact P23)) | (apply Part.nilc))) ?_)
                                              rintro v post H' ⟨rfl, sg9, hM9, rfl⟩ hH
                                              try simp only [List.cons_append, List.nil_append] at hH
                                              subst hH
                                              refine SPL_nil ?_
                                              refine inBlockP_n ?_
                                              refine bodyP_end (H' := [sg9]) (Res0 rfl) (by repeat (first | exact Part.nil _ | (apply Part.cons; with_reducible (first | exact P0 | exact P1 | exact P2 | exact P3 | exact P4 | exact P5 | exact P6 | exact P7 | exact P8 | exact P9 | exact P10 | exact P11 | exact P12 | exact P13 | exact P14 | exact P15 | exact P16 | exact P17 | exact P18 | exact P19 | exact P20 | exact P21 | exact P22 | exact P23)) | (apply Part.flat; simp only [List.cons_append, List.nil_append]) | (apply Part.cons; (first | exact P0 | exact P1 | exact P2 | exact P3 | exact P4 | exact P5 | exact P6 | exact P7 | exact P8 | exact P9 | exact P10 | exact P11 | exact P12 | exact P13 | exact P14 | exact P15 | exact P16 | exact P17 | exact P18 | exact P19 | exact P20 | exact P21 | exact P22 | exact P23)) | (apply Part.nilc))) ?_
                                              exact ⟨rfl, eb, hb, _, Gr.refl _ _, hM9, rfl⟩
                                          intro h103_0
                                          first | rw [if_neg h103_0] at hP | rw [if_pos (Decidable.not_not.1 h103_0)] at hP | skip
                                          as_aux_lemma =>
                                            refine SPL_y (y_assign rfl) rfl ?_
                                            refine SPL_nil ?_
                                            refine thenP_n ?_
                                            refine SP_cond_f rfl ?_
                                            refine SP_seq ?_
                                            refine SP_region ?_
                                            refine SPL_if (y_eql rfl rfl) rfl ?_ ?_
                                            · intro h107_0
                                              first | rw [if_pos h107_0] at hP | rw [if_neg h107_0] at hP | skip
                                              as_aux_lemma =>
                                                refine SPL_y (y_assign rfl) rfl ?_
                                                refine SPL_nil ?_
                                                refine thenP_n ?_
                                                refine SP_cond_t rfl ?_
                                                refine SP_region ?_
                                                refine SPL_y (y_move rfl) rfl ?_
                                                refine SPL_y (y_fa fld_206_2 rfl) rfl ?_
                                                refine SPL_y (y_load Tryz.isAgg3 rfl (by repeat (first | exact Cell.amid hpre rfl | exact Cell.head rfl | apply Cell.tail))) rfl ?_
                                                refine SPL_one rfl (SP1_call (cm_apply x eb hb hP _ hM0) Tryz.call109 rfl rfl (by repeat (first | exact Part.nil _ | (apply Part.cons; with_reducible (first | exact P0 | exact P1 | exact P2 | exact P3 | exact P4 | exact P5 | exact P6 | exact P7 | exact P8 | exact P9 | exact P10 | exact P11 | exact P12 | exact P13 | exact P14 | exact P15 | exact P16 | exact P17 | exact P18 | exact P19 | exact P20 | exact P21 | exact P22 | exact P23)) | (apply Part.flat; simp only [List.cons_append, List.nil_append]) | (apply Part.cons; (first | exact P0 | exact P1 | exact P2 | exact P3 | exact P4 | exact P5 | exact P6 | exact P7 | exact P8 | exact P9 | exact P10 | exact P11 | exact P12 | exact P13 | exact P14 | exact P15 | exact P16 | exact P17 | exact P18 | exact P19 | exact P20 | exact P21 | exact P22 | exact P23)) | (apply Part.nilc))) ?_)
                                                rintro v post H' ⟨rfl, ebE, hbE, sg9, hgrE, hM9, rfl⟩ hH
                                                try simp only [List.cons_append, List.nil_append] at hH
                                                subst hH
                                                refine SPL_nil ?_
                                                refine inBlockP_n ?_
                                                refine bodyP_end (H' := [sg9]) (Res0 rfl) (by repeat (first | exact Part.nil _ | (apply Part.cons; with_reducible (first | exact P0 | exact P1 | exact P2 | exact P3 | exact P4 | exact P5 | exact P6 | exact P7 | exact P8 | exact P9 | exact P10 | exact P11 | exact P12 | exact P13 | exact P14 | exact P15 | exact P16 | exact P17 | exact P18 | exact P19 | exact P20 | exact P21 | exact P22 | exact P23)) | (apply Part.flat; simp only [List.cons_append, List.nil_append]) | (apply Part.cons; (first | exact P0 | exact P1 | exact P2 | exact P3 | exact P4 | exact P5 | exact P6 | exact P7 | exact P8 | exact P9 | exact P10 | exact P11 | exact P12 | exact P13 | exact P14 | exact P15 | exact P16 | exact P17 | exact P18 | exact P19 | exact P20 | exact P21 | exact P22 | exact P23)) | (apply Part.nilc))) ?_
                                                exact ⟨rfl, ebE, hbE, _, hgrE, hM9, rfl⟩
                                            intro h107_0
                                            first | rw [if_neg h107_0] at hP | rw [if_pos (Decidable.not_not.1 h107_0)] at hP | skip
                                            as_aux_lemma =>
                                              refine SPL_y (y_assign rfl) rfl ?_
                                              refine SPL_nil ?_
                                              refine thenP_n ?_
                                              refine SP_cond_f rfl ?_
                                              refine SP_seq ?_
                                              refine SP_region ?_
                                              refine SPL_if (y_eql rfl rfl) rfl ?_ ?_
                                              · intro h109_0
                                                first | rw [if_pos h109_0] at hP | rw [if_neg h109_0] at hP | skip
                                                as_aux_lemma =>
                                                  refine SPL_y (y_assign rfl) rfl ?_
                                                  refine SPL_nil ?_
                                                  refine thenP_n ?_
                                                  refine SP_cond_t rfl ?_
                                                  refine SP_seq ?_
                                                  have hcc := hcc0
                                                  have hc := hc0
                                                  have hg2 := hg0
                                                  unfold k23 at hP
                                                  refine SP_region ?_
                                                  refine SPL_y (y_move rfl) rfl ?_
                                                  obtain ⟨v1, m1, hq1, hP⟩ := bnd2 hP
                                                  refine SPL_one rfl (SP1_call (cm_pop x eb hb hq1 _ hM0) Tryz.call99 rfl rfl (by repeat (first | exact Part.nil _ | (apply Part.cons; with_reducible (first | exact P0 | exact P1 | exact P2 | exact P3 | exact P4 | exact P5 | exact P6 | exact P7 | exact P8 | exact P9 | exact P10 | exact P11 | exact P12 | exact P13 | exact P14 | exact P15 | exact P16 | exact P17 | exact P18 | exact P19 | exact P20 | exact P21 | exact P22 | exact P23)) | (apply Part.flat; simp only [List.cons_append, List.nil_append]) | (apply Part.cons; (first | exact P0 | exact P1 | exact P2 | exact P3 | exact P4 | exact P5 | exact P6 | exact P7 | exact P8 | exact P9 | exact P10 | exact P11 | exact P12 | exact P13 | exact P14 | exact P15 | exact P16 | exact P17 | exact P18 | exact P19 | exact P20 | exact P21 | exact P22 | exact P23)) | (apply Part.nilc))) ?_)
                                                  rintro v post H' ⟨rfl, sg1, hM1, rfl⟩ hH
                                                  try simp only [List.cons_append, List.nil_append] at hH
                                                  subst hH
                                                  refine SPL_one rfl (SP1_alloc Tryz.zeroValue42 rfl rfl ?_)
                                                  intro b35
                                                  refine SPL_one rfl (SP1_storeAll Tryz.sizeOf42 rfl rfl rfl rfl rfl (by first | exact U0 | exact U1 | exact U2 | exact U3 | exact U4 | exact U5 | exact U6 | exact U7 | exact U8 | exact U9 | exact U10 | exact U11 | exact U12 | exact U13 | exact U14 | exact U15 | exact U16 | exact U17 | exact U18 | exact U19 | exact U20 | exact U21 | exact U22 | exact U23) (by rfl) ?_)
                                                  refine SPL_nil ?_
                                                  refine thenP_n ?_
                                                  refine SP_seq ?_
                                                  obtain ⟨hc1, hcc1, hcl1⟩ := rpop_thr hq1 hcc hc
                                                  obtain ⟨vt, hvvt, hP⟩ := bnd1 hP
                                                  obtain ⟨⟨_, hvkt, hvlt⟩, hivt, hxvt⟩ := vTop_some hvvt hcc1 hc1
                                                  have hqx : -9223372036854775808 ≤ q.x ∧ q.x < 9223372036854775807 := Decidable.byContradiction fun z => by rw [if_neg z] at hP; cases hP
                                                  rw [if_pos hqx] at hP
                                                  obtain ⟨vk, vc, hVs, hVc⟩ := hM1.tops hc1 (by omega)
                                                  have hCvt : ∀ H : Hp, Cells (sg1 :: H) vk (0 + ((m1.ths[c].vals.length - 1 : Nat) : Int).toNat * 3) (valV vt) := fun H => by have := hVc _ hivt H; rwa [hxvt] at this
                                                  refine SP_draw 6 [(0, 0), (1, 0), (2, 0), (4, 0), (3, 1), (5, 1), (6, 3), (7, 0)] mixed (by kernel_rfl) (fun _ _ _ _ _ h => h) (Part.refl _) ?_
                                                  refine SPO_p rfl (y_move rfl) rfl ?_
                                                  refine SPO_p rfl (y_nil rfl) rfl ?_
                                                  refine SPO_p rfl (y_fa fld_142_0 rfl) rfl ?_
                                                  refine SPO_p rfl (y_fa fld_206_2 rfl) rfl ?_
                                                  refine SPO_h rfl (y_load Tryz.isAgg78 rfl (by repeat (first | exact hM1.cNum _ | apply Cell.tail))) rfl ?_
                                                  refine SPO_h rfl (y_load Tryz.isAgg3 rfl (by repeat (first | exact Cell.amid hpre rfl | exact Cell.head rfl | apply Cell.tail))) rfl ?_
                                                  refine SPO_z (k := 0) rfl rfl (SP1_call (nm_FromInt _ q.x (by omega) (by omega)) Tryz.call110 rfl rfl (by repeat (first | exact Part.nil _ | (apply Part.cons; with_reducible (first | exact P0 | exact P1 | exact P2 | exact P3 | exact P4 | exact P5 | exact P6 | exact P7 | exact P8 | exact P9 | exact P10 | exact P11 | exact P12 | exact P13 | exact P14 | exact P15 | exact P16 | exact P17 | exact P18 | exact P19 | exact P20 | exact P21 | exact P22 | exact P23)) | (apply Part.flat; simp only [List.cons_append, List.nil_append]) | (apply Part.cons; (first | exact P0 | exact P1 | exact P2 | exact P3 | exact P4 | exact P5 | exact P6 | exact P7 | exact P8 | exact P9 | exact P10 | exact P11 | exact P12 | exact P13 | exact P14 | exact P15 | exact P16 | exact P17 | exact P18 | exact P19 | exact P20 | exact P21 | exact P22 | exact P23)) | (apply Part.nilc))) ?_)
                                                  rintro v post H' ⟨rfl, rfl⟩ hH
                                                  try simp only [List.cons_append, List.nil_append] at hH
                                                  subst hH
                                                  refine SPO_p rfl (y_assign rfl) rfl ?_
                                                  refine SPO_nil ?_
                                                  refine thenP_n ?_
                                                  refine SP_seq ?_
                                                  obtain ⟨m2, hq2, hP⟩ := bnd1 hP
                                                  refine SP_draw 16 [(0, 0), (1, 0), (2, 0), (3, 0), (5, 0), (6, 0), (7, 0), (13, 0), (14, 0), (4, 1), (8, 1), (9, 0), (10, 0), (11, 0), (12, 1), (15, 1), (16, 3)] mixed (by kernel_rfl) (fun _ _ _ _ _ h => h) (Part.refl _) ?_
                                                  refine SPO_p rfl (y_move rfl) rfl ?_
                                                  refine SPO_p rfl (y_move rfl) rfl ?_
                                                  refine SPO_p rfl (y_nil rfl) rfl ?_
                                                  refine SPO_p rfl (y_fa fld_152_4 rfl) rfl ?_
                                                  refine SPO_p rfl (y_move rfl) rfl ?_
                                                  refine SPO_p rfl (y_nil rfl) rfl ?_
                                                  refine SPO_p rfl (y_fa fld_152_4 rfl) rfl ?_
                                                  refine SPO_p rfl (y_move rfl) rfl ?_
                                                  refine SPO_p rfl (y_build B42 rfl rfl (by simp only [fillL, List.foldl_cons, List.foldl_nil, List.set_cons_zero, List.set_cons_succ]; exact rfl)) rfl ?_
                                                  refine SPO_h rfl (y_load Tryz.isAgg90 rfl (by repeat (first | exact hVs _ | apply Cell.tail))) rfl ?_
                                                  refine SPO_h rfl (y_load Tryz.isAgg90 rfl (by repeat (first | exact hVs _ | apply Cell.tail))) rfl ?_
                                                  refine SPO_p rfl (y_len_l Tryz.underlying90 rfl) rfl ?_
                                                  refine SPO_p rfl (y_sub rfl rfl (by omega)) rfl ?_
                                                  rw [show ((m1.ths[c].vals.length : Nat) : Int) - 1 = ((m1.ths[c].vals.length - 1 : Nat) : Int) by omega]
                                                  refine SPO_p rfl (y_ia Tryz.underlying90 Tryz.sizeOf42 rfl rfl (by omega)) rfl ?_
                                                  refine SPO_h rfl (y_loads Tryz.isAgg42 Tryz.sizeOf42 rfl rfl (by repeat (first | exact hCvt _ | apply Cells.tail))) rfl ?_
                                                  refine SPO_h rfl (y_loads Tryz.isAgg42 Tryz.sizeOf42 rfl rfl (by repeat (first | exact Cells.all _ | exact Cells.amid hpre rfl (by decide) | exact Cells.head rfl | apply Cells.tail))) rfl ?_
                                                  refine SPO_z (k := 0) rfl rfl (SP1_call (cm_set x eb hb vt ⟨2, (FloatKind.f64.nearest q.x : Nat), []⟩ v1 hq2 _ hM1) Tryz.call101 rfl rfl (by repeat (first | exact Part.nil _ | (apply Part.cons; with_reducible (first | exact P0 | exact P1 | exact P2 | exact P3 | exact P4 | exact P5 | exact P6 | exact P7 | exact P8 | exact P9 | exact P10 | exact P11 | exact P12 | exact P13 | exact P14 | exact P15 | exact P16 | exact P17 | exact P18 | exact P19 | exact P20 | exact P21 | exact P22 | exact P23)) | (apply Part.flat; simp only [List.cons_append, List.nil_append]) | (apply Part.cons; (first | exact P0 | exact P1 | exact P2 | exact P3 | exact P4 | exact P5 | exact P6 | exact P7 | exact P8 | exact P9 | exact P10 | exact P11 | exact P12 | exact P13 | exact P14 | exact P15 | exact P16 | exact P17 | exact P18 | exact P19 | exact P20 | exact P21 | exact P22 | exact P23)) | (apply Part.nilc))) ?_)
                                                  rintro v post H' ⟨rfl, sg2, hM2, rfl⟩ hH
                                                  try simp only [List.cons_append, List.nil_append] at hH
                                                  subst hH
                                                  refine SPO_nil ?_
                                                  refine thenP_n ?_
                                                  refine SP_seq ?_
                                                  have hdC := hM2.cDone
                                                  generalize hdn2 : m2.done = dn2 at hP hdC
                                                  refine SP_region ?_
                                                  refine SPL_y (y_move rfl) rfl ?_
                                                  refine SPL_y (y_nil rfl) rfl ?_
                                                  refine SPL_y (y_fa fld_142_12 rfl) rfl ?_
                                                  refine SPL_y (y_load Tryz.isAgg4 rfl (by repeat (first | exact hdC _ | apply Cell.tail))) rfl ?_
                                                  rcases dn2 with _ | _
                                                  · try dsimp only [cond_true, cond_false, Bool.true_or, Bool.false_or] at hP
                                                    refine SPL_y (y_not_f rfl) rfl ?_
                                                    refine SPL_nil ?_
                                                    refine thenP_n ?_
                                                    refine SP_cond_t rfl ?_
                                                    rw [if_pos rfl] at hP
                                                    refine SP_region ?_
                                                    refine SPL_y (y_move rfl) rfl ?_
                                                    refine SPL_y (y_fa fld_158_4 rfl) rfl ?_
                                                    refine SPL_y (y_load Tryz.isAgg3 rfl (by repeat (first | exact Cell.amid hpre rfl | exact Cell.head rfl | apply Cell.tail))) rfl ?_
                                                    refine SPL_y (y_fa fld_206_2 rfl) rfl ?_
                                                    refine SPL_y (y_load Tryz.isAgg3 rfl (by repeat (first | exact Cell.amid hpre rfl | exact Cell.head rfl | apply Cell.tail))) rfl ?_
                                                    refine SPL_y (y_add rfl rfl (by omega)) rfl ?_
                                                    refine SPL_y (y_fa fld_206_3 rfl) rfl ?_
                                                    refine SPL_y (y_load Tryz.isAgg146 rfl (by repeat (first | exact Cell.amid hpre rfl | exact Cell.head rfl | apply Cell.tail))) rfl ?_
                                                    refine SPL_one rfl (SP1_call (cm_items x eb hb hP _ hM2) Tryz.call111 rfl rfl (by repeat (first | exact Part.nil _ | (apply Part.cons; with_reducible (first | exact P0 | exact P1 | exact P2 | exact P3 | exact P4 | exact P5 | exact P6 | exact P7 | exact P8 | exact P9 | exact P10 | exact P11 | exact P12 | exact P13 | exact P14 | exact P15 | exact P16 | exact P17 | exact P18 | exact P19 | exact P20 | exact P21 | exact P22 | exact P23)) | (apply Part.flat; simp only [List.cons_append, List.nil_append]) | (apply Part.cons; (first | exact P0 | exact P1 | exact P2 | exact P3 | exact P4 | exact P5 | exact P6 | exact P7 | exact P8 | exact P9 | exact P10 | exact P11 | exact P12 | exact P13 | exact P14 | exact P15 | exact P16 | exact P17 | exact P18 | exact P19 | exact P20 | exact P21 | exact P22 | exact P23)) | (apply Part.nilc))) ?_)
                                                    rintro v post H' ⟨rfl, sg9, hM9, rfl⟩ hH
                                                    try simp only [List.cons_append, List.nil_append] at hH
                                                    subst hH
                                                    refine SPL_nil ?_
                                                    refine inBlockP_n ?_
                                                    refine bodyP_end (H' := [sg9]) (Res0 rfl) (by repeat (first | exact Part.nil _ | (apply Part.cons; with_reducible (first | exact P0 | exact P1 | exact P2 | exact P3 | exact P4 | exact P5 | exact P6 | exact P7 | exact P8 | exact P9 | exact P10 | exact P11 | exact P12 | exact P13 | exact P14 | exact P15 | exact P16 | exact P17 | exact P18 | exact P19 | exact P20 | exact P21 | exact P22 | exact P23)) | (apply Part.flat; simp only [List.cons_append, List.nil_append]) | (apply Part.cons; (first | exact P0 | exact P1 | exact P2 | exact P3 | exact P4 | exact P5 | exact P6 | exact P7 | exact P8 | exact P9 | exact P10 | exact P11 | exact P12 | exact P13 | exact P14 | exact P15 | exact P16 | exact P17 | exact P18 | exact P19 | exact P20 | exact P21 | exact P22 | exact P23)) | (apply Part.nilc))) ?_
                                                    exact ⟨rfl, eb, hb, _, Gr.refl _ _, hM9, rfl⟩
                                                  · try dsimp only [cond_true, cond_false, Bool.true_or, Bool.false_or] at hP
                                                    refine SPL_y (y_not_t rfl) rfl ?_
                                                    refine SPL_nil ?_
                                                    refine thenP_n ?_
                                                    refine SP_cond_f rfl ?_
                                                    refine SP_skip ?_
                                                    refine inBlockP_n ?_
                                                    refine bodyP_end (H' := [sg2]) (Res0 rfl) (by repeat (first | exact Part.nil _ | (apply Part.cons; with_reducible (first | exact P0 | exact P1 | exact P2 | exact P3 | exact P4 | exact P5 | exact P6 | exact P7 | exact P8 | exact P9 | exact P10 | exact P11 | exact P12 | exact P13 | exact P14 | exact P15 | exact P16 | exact P17 | exact P18 | exact P19 | exact P20 | exact P21 | exact P22 | exact P23)) | (apply Part.flat; simp only [List.cons_append, List.nil_append]) | (apply Part.cons; (first | exact P0 | exact P1 | exact P2 | exact P3 | exact P4 | exact P5 | exact P6 | exact P7 | exact P8 | exact P9 | exact P10 | exact P11 | exact P12 | exact P13 | exact P14 | exact P15 | exact P16 | exact P17 | exact P18 | exact P19 | exact P20 | exact P21 | exact P22 | exact P23)) | (apply Part.nilc))) ?_
                                                    rw [if_neg (by decide)] at hP
                                                    injection hP with hP
                                                    subst hP
                                                    exact ⟨rfl, eb, hb, _, Gr.refl _ _, hM2, rfl⟩
                                              intro h109_0
                                              first | rw [if_neg h109_0] at hP | rw [if_pos (Decidable.not_not.1 h109_0)] at hP | skip
                                              as_aux_lemma =>
                                                refine SPL_y (y_assign rfl) rfl ?_
                                                refine SPL_nil ?_
                                                refine thenP_n ?_
                                                refine SP_cond_f rfl ?_
                                                refine SP_seq ?_
                                                refine SP_region ?_
                                                refine SPL_if (y_eql rfl rfl) rfl ?_ ?_
                                                · intro h115_0
                                                  first | rw [if_pos h115_0] at hP | rw [if_neg h115_0] at hP | skip
                                                  as_aux_lemma =>
                                                    refine SPL_y (y_assign rfl) rfl ?_
                                                    refine SPL_nil ?_
                                                    refine thenP_n ?_
                                                    refine SP_cond_t rfl ?_
                                                    refine SP_seq ?_
                                                    refine SP_region ?_
                                                    refine SPL_y (y_move rfl) rfl ?_
                                                    obtain ⟨v1, m1, hq1, hP⟩ := bnd2 hP
                                                    refine SPL_one rfl (SP1_call (cm_pop x eb hb hq1 _ hM0) Tryz.call99 rfl rfl (by repeat (first | exact Part.nil _ | (apply Part.cons; with_reducible (first | exact P0 | exact P1 | exact P2 | exact P3 | exact P4 | exact P5 | exact P6 | exact P7 | exact P8 | exact P9 | exact P10 | exact P11 | exact P12 | exact P13 | exact P14 | exact P15 | exact P16 | exact P17 | exact P18 | exact P19 | exact P20 | exact P21 | exact P22 | exact P23)) | (apply Part.flat; simp only [List.cons_append, List.nil_append]) | (apply Part.cons; (first | exact P0 | exact P1 | exact P2 | exact P3 | exact P4 | exact P5 | exact P6 | exact P7 | exact P8 | exact P9 | exact P10 | exact P11 | exact P12 | exact P13 | exact P14 | exact P15 | exact P16 | exact P17 | exact P18 | exact P19 | exact P20 | exact P21 | exact P22 | exact P23)) | (apply Part.nilc))) ?_)
                                                    rintro v post H' ⟨rfl, sg1, hM1, rfl⟩ hH
                                                    try simp only [List.cons_append, List.nil_append] at hH
                                                    subst hH
                                                    refine SPL_one rfl (SP1_alloc Tryz.zeroValue42 rfl rfl ?_)
                                                    intro b37
                                                    refine SPL_one rfl (SP1_storeAll Tryz.sizeOf42 rfl rfl rfl rfl rfl (by first | exact U0 | exact U1 | exact U2 | exact U3 | exact U4 | exact U5 | exact U6 | exact U7 | exact U8 | exact U9 | exact U10 | exact U11 | exact U12 | exact U13 | exact U14 | exact U15 | exact U16 | exact U17 | exact U18 | exact U19 | exact U20 | exact U21 | exact U22 | exact U23) (by rfl) ?_)
                                                    refine SPL_nil ?_
                                                    refine thenP_n ?_
                                                    refine SP_seq ?_
                                                    refine SP_region ?_
                                                    refine SPL_y (y_move rfl) rfl ?_
                                                    obtain ⟨v2, m2, hq2, hP⟩ := bnd2 hP
                                                    refine SPL_one rfl (SP1_call (cm_pop x eb hb hq2 _ hM1) Tryz.call99 rfl rfl (by repeat (first | exact Part.nil _ | (apply Part.cons; with_reducible (first | exact P0 | exact P1 | exact P2 | exact P3 | exact P4 | exact P5 | exact P6 | exact P7 | exact P8 | exact P9 | exact P10 | exact P11 | exact P12 | exact P13 | exact P14 | exact P15 | exact P16 | exact P17 | exact P18 | exact P19 | exact P20 | exact P21 | exact P22 | exact P23)) | (apply Part.flat; simp only [List.cons_append, List.nil_append]) | (apply Part.cons; (first | exact P0 | exact P1 | exact P2 | exact P3 | exact P4 | exact P5 | exact P6 | exact P7 | exact P8 | exact P9 | exact P10 | exact P11 | exact P12 | exact P13 | exact P14 | exact P15 | exact P16 | exact P17 | exact P18 | exact P19 | exact P20 | exact P21 | exact P22 | exact P23)) | (apply Part.nilc))) ?_)
                                                    rintro v post H' ⟨rfl, sg2, hM2, rfl⟩ hH
                                                    try simp only [List.cons_append, List.nil_append] at hH
                                                    subst hH
                                                    refine SPL_one rfl (SP1_alloc Tryz.zeroValue42 rfl rfl ?_)
                                                    intro b38
                                                    refine SPL_one rfl (SP1_storeAll Tryz.sizeOf42 rfl rfl rfl rfl rfl (by first | exact U0 | exact U1 | exact U2 | exact U3 | exact U4 | exact U5 | exact U6 | exact U7 | exact U8 | exact U9 | exact U10 | exact U11 | exact U12 | exact U13 | exact U14 | exact U15 | exact U16 | exact U17 | exact U18 | exact U19 | exact U20 | exact U21 | exact U22 | exact U23) (by rfl) ?_)
                                                    refine SPL_nil ?_
                                                    refine thenP_n ?_
                                                    have hdn : 0 ≤ d.n ∧ d.n < 1000000 := Decidable.byContradiction fun z => by rw [if_neg z] at hP; cases hP
                                                    rw [if_pos hdn] at hP
                                                    refine SP_region ?_
                                                    refine SPL_y (y_move rfl) rfl ?_
                                                    refine SPL_y (y_fa fld_158_5 rfl) rfl ?_
                                                    refine SPL_y (y_load Tryz.isAgg40 rfl (by repeat (first | exact Cell.amid hpre rfl | exact Cell.head rfl | apply Cell.tail))) rfl ?_
                                                    refine SPL_y (y_conv Tryz.underlying40 Tryz.underlying3 rfl (show IntKind.i64.wrap d.n = d.n by rw [IntKind.wrap_i64]; omega)) rfl ?_
                                                    refine SPL_y (y_loads Tryz.isAgg42 Tryz.sizeOf42 rfl rfl (by repeat (first | exact Cells.all _ | exact Cells.amid hpre rfl (by decide) | exact Cells.head rfl | apply Cells.tail))) rfl ?_
                                                    refine SPL_y (y_loads Tryz.isAgg42 Tryz.sizeOf42 rfl rfl (by repeat (first | exact Cells.all _ | exact Cells.amid hpre rfl (by decide) | exact Cells.head rfl | apply Cells.tail))) rfl ?_
                                                    refine SPL_one rfl (SP1_call (cm_bin x eb hb d.n v2 v1 hP _ hM2) Tryz.call112 rfl rfl (by repeat (first | exact Part.nil _ | (apply Part.cons; with_reducible (first | exact P0 | exact P1 | exact P2 | exact P3 | exact P4 | exact P5 | exact P6 | exact P7 | exact P8 | exact P9 | exact P10 | exact P11 | exact P12 | exact P13 | exact P14 | exact P15 | exact P16 | exact P17 | exact P18 | exact P19 | exact P20 | exact P21 | exact P22 | exact P23)) | (apply Part.flat; simp only [List.cons_append, List.nil_append]) | (apply Part.cons; (first | exact P0 | exact P1 | exact P2 | exact P3 | exact P4 | exact P5 | exact P6 | exact P7 | exact P8 | exact P9 | exact P10 | exact P11 | exact P12 | exact P13 | exact P14 | exact P15 | exact P16 | exact P17 | exact P18 | exact P19 | exact P20 | exact P21 | exact P22 | exact P23)) | (apply Part.nilc))) ?_)
                                                    rintro v post H' ⟨rfl, sg9, hM9, rfl⟩ hH
                                                    try simp only [List.cons_append, List.nil_append] at hH
                                                    subst hH
                                                    refine SPL_nil ?_
                                                    refine inBlockP_n ?_
                                                    refine bodyP_end (H' := [sg9]) (Res0 rfl) (by repeat (first | exact Part.nil _ | (apply Part.cons; with_reducible (first | exact P0 | exact P1 | exact P2 | exact P3 | exact P4 | exact P5 | exact P6 | exact P7 | exact P8 | exact P9 | exact P10 | exact P11 | exact P12 | exact P13 | exact P14 | exact P15 | exact P16 | exact P17 | exact P18 | exact P19 | exact P20 | exact P21 | exact P22 | exact P23)) | (apply Part.flat; simp only [List.cons_append, List.nil_append]) | (apply Part.cons; (first | exact P0 | exact P1 | exact P2 | exact P3 | exact P4 | exact P5 | exact P6 | exact P7 | exact P8 | exact P9 | exact P10 | exact P11 | exact P12 | exact P13 | exact P14 | exact P15 | exact P16 | exact P17 | exact P18 | exact P19 | exact P20 | exact P21 | exact P22 | exact P23)) | (apply Part.nilc))) ?_
                                                    exact ⟨rfl, eb, hb, _, Gr.refl _ _, hM9, rfl⟩
                                                intro h115_0
                                                first | rw [if_neg h115_0] at hP | rw [if_pos (Decidable.not_not.1 h115_0)] at hP | skip
                                                as_aux_lemma =>
                                                  refine SPL_y (y_assign rfl) rfl ?_
                                                  refine SPL_nil ?_
                                                  refine thenP_n ?_
                                                  refine SP_cond_f rfl ?_
                                                  refine SP_seq ?_
                                                  refine SP_region ?_
                                                  refine SPL_if (y_eql rfl rfl) rfl ?_ ?_
                                                  · intro h119_0
                                                    first | rw [if_pos h119_0] at hP | rw [if_neg h119_0] at hP | skip
                                                    as_aux_lemma =>
                                                      refine SPL_y (y_assign rfl) rfl ?_
                                                      refine SPL_nil ?_
                                                      refine thenP_n ?_
                                                      refine SP_cond_t rfl ?_
                                                      refine SP_seq ?_
                                                      refine SP_region ?_
                                                      refine SPL_y (y_move rfl) rfl ?_
                                                      obtain ⟨v1, m1, hq1, hP⟩ := bnd2 hP
                                                      refine SPL_one rfl (SP1_call (cm_pop x eb hb hq1 _ hM0) Tryz.call99 rfl rfl (by repeat (first | exact Part.nil _ | (apply Part.cons; with_reducible (first | exact P0 | exact P1 | exact P2 | exact P3 | exact P4 | exact P5 | exact P6 | exact P7 | exact P8 | exact P9 | exact P10 | exact P11 | exact P12 | exact P13 | exact P14 | exact P15 | exact P16 | exact P17 | exact P18 | exact P19 | exact P20 | exact P21 | exact P22 | exact P23)) | (apply Part.flat; simp only [List.cons_append, List.nil_append]) | (apply Part.cons; (first | exact P0 | exact P1 | exact P2 | exact P3 | exact P4 | exact P5 | exact P6 | exact P7 | exact P8 | exact P9 | exact P10 | exact P11 | exact P12 | exact P13 | exact P14 | exact P15 | exact P16 | exact P17 | exact P18 | exact P19 | exact P20 | exact P21 | exact P22 | exact P23)) | (apply Part.nilc))) ?_)
                                                      rintro v post H' ⟨rfl, sg1, hM1, rfl⟩ hH
                                                      try simp only [List.cons_append, List.nil_append] at hH
                                                      subst hH
                                                      refine SPL_one rfl (SP1_alloc Tryz.zeroValue42 rfl rfl ?_)
                                                      intro b39
                                                      refine SPL_one rfl (SP1_storeAll Tryz.sizeOf42 rfl rfl rfl rfl rfl (by first | exact U0 | exact U1 | exact U2 | exact U3 | exact U4 | exact U5 | exact U6 | exact U7 | exact U8 | exact U9 | exact U10 | exact U11 | exact U12 | exact U13 | exact U14 | exact U15 | exact U16 | exact U17 | exact U18 | exact U19 | exact U20 | exact U21 | exact U22 | exact U23) (by rfl) ?_)
                                                      refine SPL_nil ?_
                                                      refine thenP_n ?_
                                                      have hdn : 0 ≤ d.n ∧ d.n < 1000000 := Decidable.byContradiction fun z => by rw [if_neg z] at hP; cases hP
                                                      rw [if_pos hdn] at hP
                                                      refine SP_region ?_
                                                      refine SPL_y (y_move rfl) rfl ?_
                                                      refine SPL_y (y_fa fld_158_5 rfl) rfl ?_
                                                      refine SPL_y (y_load Tryz.isAgg40 rfl (by repeat (first | exact Cell.amid hpre rfl | exact Cell.head rfl | apply Cell.tail))) rfl ?_
                                                      refine SPL_y (y_conv Tryz.underlying40 Tryz.underlying3 rfl (show IntKind.i64.wrap d.n = d.n by rw [IntKind.wrap_i64]; omega)) rfl ?_
                                                      refine SPL_y (y_loads Tryz.isAgg42 Tryz.sizeOf42 rfl rfl (by repeat (first | exact Cells.all _ | exact Cells.amid hpre rfl (by decide) | exact Cells.head rfl | apply Cells.tail))) rfl ?_
                                                      refine SPL_one rfl (SP1_call (cm_un x eb hb d.n v1 hP _ hM1) Tryz.call113 rfl rfl (by repeat (first | exact Part.nil _ | (apply Part.cons; with_reducible (first | exact P0 | exact P1 | exact P2 | exact P3 | exact P4 | exact P5 | exact P6 | exact P7 | exact P8 | exact P9 | exact P10 | exact P11 | exact P12 | exact P13 | exact P14 | exact P15 | exact P16 | exact P17 | exact P18 | exact P19 | exact P20 | exact P21 | exact P22 | exact P23)) | (apply Part.flat; simp only [List.cons_append, List.nil_append]) | (apply Part.cons; (first | exact P0 | exact P1 | exact P2 | exact P3 | exact P4 | exact P5 | exact P6 | exact P7 | exact P8 | exact P9 | exact P10 | exact P11 | exact P12 | exact P13 | exact P14 | exact P15 | exact P16 | exact P17 | exact P18 | exact P19 | exact P20 | exact P21 | exact P22 | exact P23)) | (apply Part.nilc))) ?_)
                                                      rintro v post H' ⟨rfl, sg9, hM9, rfl⟩ hH
                                                      try simp only [List.cons_append, List.nil_append] at hH
                                                      subst hH
                                                      refine SPL_nil ?_
                                                      refine inBlockP_n ?_
                                                      refine bodyP_end (H' := [sg9]) (Res0 rfl) (by repeat (first | exact Part.nil _ | (apply Part.cons; with_reducible (first | exact P0 | exact P1 | exact P2 | exact P3 | exact P4 | exact P5 | exact P6 | exact P7 | exact P8 | exact P9 | exact P10 | exact P11 | exact P12 | exact P13 | exact P14 | exact P15 | exact P16 | exact P17 | exact P18 | exact P19 | exact P20 | exact P21 | exact P22 | exact P23)) | (apply Part.flat; simp only [List.cons_append, List.nil_append]) | (apply Part.cons; (first | exact P0 | exact P1 | exact P2 | exact P3 | exact P4 | exact P5 | exact P6 | exact P7 | exact P8 | exact P9 | exact P10 | exact P11 | exact P12 | exact P13 | exact P14 | exact P15 | exact P16 | exact P17 | exact P18 | exact P19 | exact P20 | exact P21 | exact P22 | exact P23)) | (apply Part.nilc))) ?_
                                                      exact ⟨rfl, eb, hb, _, Gr.refl _ _, hM9, rfl⟩
                                                  intro h119_0
                                                  first | rw [if_neg h119_0] at hP | rw [if_pos (Decidable.not_not.1 h119_0)] at hP | skip
                                                  as_aux_lemma =>
                                                    refine SPL_y (y_assign rfl) rfl ?_
                                                    refine SPL_nil ?_
                                                    refine thenP_n ?_
                                                    refine SP_cond_f rfl ?_
                                                    refine SP_seq ?_
                                                    refine SP_region ?_
                                                    refine SPL_if (y_eql rfl rfl) rfl ?_ ?_
                                                    · intro h122_0
                                                      first | rw [if_pos h122_0] at hP | rw [if_neg h122_0] at hP | skip
                                                      as_aux_lemma =>
                                                        refine SPL_y (y_assign rfl) rfl ?_
                                                        refine SPL_nil ?_
                                                        refine thenP_n ?_
                                                        refine SP_cond_t rfl ?_
                                                        refine SP_seq ?_
                                                        have hcc := hcc0
                                                        have hc := hc0
                                                        have hg2 := hg0
                                                        obtain ⟨va, hvva, hP⟩ := bnd1 hP
                                                        obtain ⟨⟨_, hvkva, hvlva⟩, hiva, hxva⟩ := vTop_some hvva hcc hc
                                                        obtain ⟨vk, vc, hVs, hVc⟩ := hM0.tops hc (by omega)
                                                        have hCva : ∀ H : Hp, Cells (sg0 :: H) vk (0 + ((m0.ths[c].vals.length - 1 : Nat) : Int).toNat * 3) (valV va) := fun H => by have := hVc _ hiva H; rwa [hxva] at this
                                                        have hTva : ∀ H : Hp, Cell (sg0 :: H) vk (0 + ((m0.ths[c].vals.length - 1 : Nat) : Int).toNat * 3 + 0) (I va.t) := fun H => (hCva H).cell (j := 0) rfl
                                                        refine SP_draw 12 [(0, 0), (1, 0), (2, 0), (4, 0), (5, 0), (6, 0), (3, 1), (7, 1), (8, 0), (9, 0), (10, 0), (11, 1), (12, 3)] mixed (by kernel_rfl) (fun _ _ _ _ _ h => h) (Part.refl _) ?_
                                                        refine SPO_p rfl (y_move rfl) rfl ?_
                                                        refine SPO_p rfl (y_nil rfl) rfl ?_
                                                        refine SPO_p rfl (y_fa fld_152_4 rfl) rfl ?_
                                                        refine SPO_p rfl (y_move rfl) rfl ?_
                                                        refine SPO_p rfl (y_nil rfl) rfl ?_
                                                        refine SPO_p rfl (y_fa fld_152_4 rfl) rfl ?_
                                                        refine SPO_h rfl (y_load Tryz.isAgg90 rfl (by repeat (first | exact hVs _ | apply Cell.tail))) rfl ?_
                                                        refine SPO_h rfl (y_load Tryz.isAgg90 rfl (by repeat (first | exact hVs _ | apply Cell.tail))) rfl ?_
                                                        refine SPO_p rfl (y_len_l Tryz.underlying90 rfl) rfl ?_
                                                        refine SPO_p rfl (y_sub rfl rfl (by omega)) rfl ?_
                                                        rw [show ((m0.ths[c].vals.length : Nat) : Int) - 1 = ((m0.ths[c].vals.length - 1 : Nat) : Int) by omega]
                                                        refine SPO_p rfl (y_ia Tryz.underlying90 Tryz.sizeOf42 rfl rfl (by omega)) rfl ?_
                                                        refine SPO_h rfl (y_loads Tryz.isAgg42 Tryz.sizeOf42 rfl rfl (by repeat (first | exact hCva _ | apply Cells.tail))) rfl ?_
                                                        refine SPO_z (k := 0) rfl rfl (SP1_call (api_Truthy va) Tryz.call102 rfl rfl (by repeat (first | exact Part.nil _ | (apply Part.cons; with_reducible (first | exact P0 | exact P1 | exact P2 | exact P3 | exact P4 | exact P5 | exact P6 | exact P7 | exact P8 | exact P9 | exact P10 | exact P11 | exact P12 | exact P13 | exact P14 | exact P15 | exact P16 | exact P17 | exact P18 | exact P19 | exact P20 | exact P21 | exact P22 | exact P23)) | (apply Part.flat; simp only [List.cons_append, List.nil_append]) | (apply Part.cons; (first | exact P0 | exact P1 | exact P2 | exact P3 | exact P4 | exact P5 | exact P6 | exact P7 | exact P8 | exact P9 | exact P10 | exact P11 | exact P12 | exact P13 | exact P14 | exact P15 | exact P16 | exact P17 | exact P18 | exact P19 | exact P20 | exact P21 | exact P22 | exact P23)) | (apply Part.nilc))) ?_)
                                                        rintro v post H' ⟨rfl, rfl⟩ hH
                                                        try simp only [List.cons_append, List.nil_append] at hH
                                                        subst hH
                                                        generalize htr : truthy va = tr at hP
                                                        rcases tr with _ | _
                                                        · try dsimp only [cond_true, cond_false, Bool.true_or, Bool.false_or] at hP
                                                          refine SPO_nil ?_
                                                          refine thenP_n ?_
                                                          refine SP_cond_f rfl ?_
                                                          refine SP_skip ?_
                                                          refine inBlockP_n ?_
                                                          refine bodyP_end (H' := [sg0]) (Res0 rfl) (by repeat (first | exact Part.nil _ | (apply Part.cons; with_reducible (first | exact P0 | exact P1 | exact P2 | exact P3 | exact P4 | exact P5 | exact P6 | exact P7 | exact P8 | exact P9 | exact P10 | exact P11 | exact P12 | exact P13 | exact P14 | exact P15 | exact P16 | exact P17 | exact P18 | exact P19 | exact P20 | exact P21 | exact P22 | exact P23)) | (apply Part.flat; simp only [List.cons_append, List.nil_append]) | (apply Part.cons; (first | exact P0 | exact P1 | exact P2 | exact P3 | exact P4 | exact P5 | exact P6 | exact P7 | exact P8 | exact P9 | exact P10 | exact P11 | exact P12 | exact P13 | exact P14 | exact P15 | exact P16 | exact P17 | exact P18 | exact P19 | exact P20 | exact P21 | exact P22 | exact P23)) | (apply Part.nilc))) ?_
                                                          rw [if_neg (by decide)] at hP
                                                          injection hP with hP
                                                          subst hP
                                                          exact ⟨rfl, eb, hb, _, Gr.refl _ _, hM0, rfl⟩
                                                        · try dsimp only [cond_true, cond_false, Bool.true_or, Bool.false_or] at hP
                                                          refine SPO_nil ?_
                                                          refine thenP_n ?_
                                                          refine SP_cond_t rfl ?_
                                                          refine SP_seq ?_
                                                          rw [if_pos rfl] at hP
                                                          refine SP_region ?_
                                                          refine SPL_y (y_move rfl) rfl ?_
                                                          obtain ⟨v9, m1, hq1, hP⟩ := bnd2 hP
                                                          refine SPL_one rfl (SP1_call (cm_pop x eb hb hq1 _ hM0) Tryz.call99 rfl rfl (by repeat (first | exact Part.nil _ | (apply Part.cons; with_reducible (first | exact P0 | exact P1 | exact P2 | exact P3 | exact P4 | exact P5 | exact P6 | exact P7 | exact P8 | exact P9 | exact P10 | exact P11 | exact P12 | exact P13 | exact P14 | exact P15 | exact P16 | exact P17 | exact P18 | exact P19 | exact P20 | exact P21 | exact P22 | exact P23)) | (apply Part.flat; simp only [List.cons_append, List.nil_append]) | (apply Part.cons; (first | exact P0 | exact P1 | exact P2 | exact P3 | exact P4 | exact P5 | exact P6 | exact P7 | exact P8 | exact P9 | exact P10 | exact P11 | exact P12 | exact P13 | exact P14 | exact P15 | exact P16 | exact P17 | exact P18 | exact P19 | exact P20 | exact P21 | exact P22 | exact P23)) | (apply Part.nilc))) ?_)
                                                          rintro v post H' ⟨rfl, sg1, hM1, rfl⟩ hH
                                                          try simp only [List.cons_append, List.nil_append] at hH
                                                          subst hH
                                                          refine SPL_nil ?_
                                                          refine thenP_n ?_
                                                          refine SP_region ?_
                                                          refine SPL_y (y_move rfl) rfl ?_
                                                          refine SPL_y (y_fa fld_158_2 rfl) rfl ?_
                                                          refine SPL_y (y_load Tryz.isAgg3 rfl (by repeat (first | exact Cell.amid hpre rfl | exact Cell.head rfl | apply Cell.tail))) rfl ?_
                                                          refine SPL_y (y_fa fld_206_3 rfl) rfl ?_
                                                          refine SPL_y (y_load Tryz.isAgg146 rfl (by repeat (first | exact Cell.amid hpre rfl | exact Cell.head rfl | apply Cell.tail))) rfl ?_
                                                          refine SPL_one rfl (SP1_call (cm_do x eb hb hP _ hM1) Tryz.call95 rfl rfl (by repeat (first | exact Part.nil _ | (apply Part.cons; with_reducible (first | exact P0 | exact P1 | exact P2 | exact P3 | exact P4 | exact P5 | exact P6 | exact P7 | exact P8 | exact P9 | exact P10 | exact P11 | exact P12 | exact P13 | exact P14 | exact P15 | exact P16 | exact P17 | exact P18 | exact P19 | exact P20 | exact P21 | exact P22 | exact P23)) | (apply Part.flat; simp only [List.cons_append, List.nil_append]) | (apply Part.cons; (first | exact P0 | exact P1 | exact P2 | exact P3 | exact P4 | exact P5 | exact P6 | exact P7 | exact P8 | exact P9 | exact P10 | exact P11 | exact P12 | exact P13 | exact P14 | exact P15 | exact P16 | exact P17 | exact P18 | exact P19 | exact P20 | exact P21 | exact P22 | exact P23)) | (apply Part.nilc))) ?_)
                                                          rintro v post H' ⟨rfl, sg9, hM9, rfl⟩ hH
                                                          try simp only [List.cons_append, List.nil_append] at hH
                                                          subst hH
                                                          refine SPL_nil ?_
                                                          refine inBlockP_n ?_
                                                          refine bodyP_end (H' := [sg9]) (Res0 rfl) (by repeat (first | exact Part.nil _ | (apply Part.cons; with_reducible (first | exact P0 | exact P1 | exact P2 | exact P3 | exact P4 | exact P5 | exact P6 | exact P7 | exact P8 | exact P9 | exact P10 | exact P11 | exact P12 | exact P13 | exact P14 | exact P15 | exact P16 | exact P17 | exact P18 | exact P19 | exact P20 | exact P21 | exact P22 | exact P23)) | (apply Part.flat; simp only [List.cons_append, List.nil_append]) | (apply Part.cons; (first | exact P0 | exact P1 | exact P2 | exact P3 | exact P4 | exact P5 | exact P6 | exact P7 | exact P8 | exact P9 | exact P10 | exact P11 | exact P12 | exact P13 | exact P14 | exact P15 | exact P16 | exact P17 | exact P18 | exact P19 | exact P20 | exact P21 | exact P22 | exact P23)) | (apply Part.nilc))) ?_
                                                          exact ⟨rfl, eb, hb, _, Gr.refl _ _, hM9, rfl⟩
                                                    intro h122_0
                                                    first | rw [if_neg h122_0] at hP | rw [if_pos (Decidable.not_not.1 h122_0)] at hP | skip
                                                    as_aux_lemma =>
                                                      refine SPL_y (y_assign rfl) rfl ?_
                                                      refine SPL_nil ?_
                                                      refine thenP_n ?_
                                                      refine SP_cond_f rfl ?_
                                                      refine SP_seq ?_
                                                      refine SP_region ?_
                                                      refine SPL_if (y_eql rfl rfl) rfl ?_ ?_
                                                      · intro h126_0
                                                        first | rw [if_pos h126_0] at hP | rw [if_neg h126_0] at hP | skip
                                                        as_aux_lemma =>
                                                          refine SPL_y (y_assign rfl) rfl ?_
                                                          refine SPL_nil ?_
                                                          refine thenP_n ?_
                                                          refine SP_cond_t rfl ?_
                                                          refine SP_seq ?_
                                                          have hcc := hcc0
                                                          have hc := hc0
                                                          have hg2 := hg0
                                                          obtain ⟨va, hvva, hP⟩ := bnd1 hP
                                                          obtain ⟨⟨_, hvkva, hvlva⟩, hiva, hxva⟩ := vTop_some hvva hcc hc
                                                          obtain ⟨vk, vc, hVs, hVc⟩ := hM0.tops hc (by omega)
                                                          have hCva : ∀ H : Hp, Cells (sg0 :: H) vk (0 + ((m0.ths[c].vals.length - 1 : Nat) : Int).toNat * 3) (valV va) := fun H => by have := hVc _ hiva H; rwa [hxva] at this
                                                          have hTva : ∀ H : Hp, Cell (sg0 :: H) vk (0 + ((m0.ths[c].vals.length - 1 : Nat) : Int).toNat * 3 + 0) (I va.t) := fun H => (hCva H).cell (j := 0) rfl
                                                          refine SP_draw 12 [(0, 0), (1, 0), (2, 0), (4, 0), (5, 0), (6, 0), (3, 1), (7, 1), (8, 0), (9, 0), (10, 0), (11, 1), (12, 3), (13, 0)] mixed (by kernel_rfl) (fun _ _ _ _ _ h => h) (Part.refl _) ?_
                                                          refine SPO_p rfl (y_move rfl) rfl ?_
                                                          refine SPO_p rfl (y_nil rfl) rfl ?_
                                                          refine SPO_p rfl (y_fa fld_152_4 rfl) rfl ?_
                                                          refine SPO_p rfl (y_move rfl) rfl ?_
                                                          refine SPO_p rfl (y_nil rfl) rfl ?_
                                                          refine SPO_p rfl (y_fa fld_152_4 rfl) rfl ?_
                                                          refine SPO_h rfl (y_load Tryz.isAgg90 rfl (by repeat (first | exact hVs _ | apply Cell.tail))) rfl ?_
                                                          refine SPO_h rfl (y_load Tryz.isAgg90 rfl (by repeat (first | exact hVs _ | apply Cell.tail))) rfl ?_
                                                          refine SPO_p rfl (y_len_l Tryz.underlying90 rfl) rfl ?_
                                                          refine SPO_p rfl (y_sub rfl rfl (by omega)) rfl ?_
                                                          rw [show ((m0.ths[c].vals.length : Nat) : Int) - 1 = ((m0.ths[c].vals.length - 1 : Nat) : Int) by omega]
                                                          refine SPO_p rfl (y_ia Tryz.underlying90 Tryz.sizeOf42 rfl rfl (by omega)) rfl ?_
                                                          refine SPO_h rfl (y_loads Tryz.isAgg42 Tryz.sizeOf42 rfl rfl (by repeat (first | exact hCva _ | apply Cells.tail))) rfl ?_
                                                          refine SPO_z (k := 0) rfl rfl (SP1_call (api_Truthy va) Tryz.call102 rfl rfl (by repeat (first | exact Part.nil _ | (apply Part.cons; with_reducible (first | exact P0 | exact P1 | exact P2 | exact P3 | exact P4 | exact P5 | exact P6 | exact P7 | exact P8 | exact P9 | exact P10 | exact P11 | exact P12 | exact P13 | exact P14 | exact P15 | exact P16 | exact P17 | exact P18 | exact P19 | exact P20 | exact P21 | exact P22 | exact P23)) | (apply Part.flat; simp only [List.cons_append, List.nil_append]) | (apply Part.cons; (first | exact P0 | exact P1 | exact P2 | exact P3 | exact P4 | exact P5 | exact P6 | exact P7 | exact P8 | exact P9 | exact P10 | exact P11 | exact P12 | exact P13 | exact P14 | exact P15 | exact P16 | exact P17 | exact P18 | exact P19 | exact P20 | exact P21 | exact P22 | exact P23)) | (apply Part.nilc))) ?_)
                                                          rintro v post H' ⟨rfl, rfl⟩ hH
                                                          try simp only [List.cons_append, List.nil_append] at hH
                                                          subst hH
                                                          generalize htr : truthy va = tr at hP
                                                          rcases tr with _ | _
                                                          · try dsimp only [cond_true, cond_false, Bool.true_or, Bool.false_or] at hP
                                                            refine SPO_p rfl (y_not_f rfl) rfl ?_
                                                            refine SPO_nil ?_
                                                            refine thenP_n ?_
                                                            refine SP_cond_t rfl ?_
                                                            refine SP_seq ?_
                                                            rw [if_pos rfl] at hP
                                                            refine SP_region ?_
                                                            refine SPL_y (y_move rfl) rfl ?_
                                                            obtain ⟨v9, m1, hq1, hP⟩ := bnd2 hP
                                                            refine SPL_one rfl (SP1_call (cm_pop x eb hb hq1 _ hM0) Tryz.call99 rfl rfl (by repeat (first | exact Part.nil _ | (apply Part.cons; with_reducible (first | exact P0 | exact P1 | exact P2 | exact P3 | exact P4 | exact P5 | exact P6 | exact P7 | exact P8 | exact P9 | exact P10 | exact P11 | exact P12 | exact P13 | exact P14 | exact P15 | exact P16 | exact P17 | exact P18 | exact P19 | exact P20 | exact P21 | exact P22 | exact P23)) | (apply Part.flat; simp only [List.cons_append, List.nil_append]) | (apply Part.cons; (first | exact P0 | exact P1 | exact P2 | exact P3 | exact P4 | exact P5 | exact P6 | exact P7 | exact P8 | exact P9 | exact P10 | exact P11 | exact P12 | exact P13 | exact P14 | exact P15 | exact P16 | exact P17 | exact P18 | exact P19 | exact P20 | exact P21 | exact P22 | exact P23)) | (apply Part.nilc))) ?_)
                                                            rintro v post H' ⟨rfl, sg1, hM1, rfl⟩ hH
                                                            try simp only [List.cons_append, List.nil_append] at hH
                                                            subst hH
                                                            refine SPL_nil ?_
                                                            refine thenP_n ?_
                                                            refine SP_region ?_
                                                            refine SPL_y (y_move rfl) rfl ?_
                                                            refine SPL_y (y_fa fld_158_2 rfl) rfl ?_
                                                            refine SPL_y (y_load Tryz.isAgg3 rfl (by repeat (first | exact Cell.amid hpre rfl | exact Cell.head rfl | apply Cell.tail))) rfl ?_
                                                            refine SPL_y (y_fa fld_206_3 rfl) rfl ?_
                                                            refine SPL_y (y_load Tryz.isAgg146 rfl (by repeat (first | exact Cell.amid hpre rfl | exact Cell.head rfl | apply Cell.tail))) rfl ?_
                                                            refine SPL_one rfl (SP1_call (cm_do x eb hb hP _ hM1) Tryz.call95 rfl rfl (by repeat (first | exact Part.nil _ | (apply Part.cons; with_reducible (first | exact P0 | exact P1 | exact P2 | exact P3 | exact P4 | exact P5 | exact P6 | exact P7 | exact P8 | exact P9 | exact P10 | exact P11 | exact P12 | exact P13 | exact P14 | exact P15 | exact P16 | exact P17 | exact P18 | exact P19 | exact P20 | exact P21 | exact P22 | exact P23)) | (apply Part.flat; simp only [List.cons_append, List.nil_append]) | (apply Part.cons; (first | exact P0 | exact P1 | exact P2 | exact P3 | exact P4 | exact P5 | exact P6 | exact P7 | exact P8 | exact P9 | exact P10 | exact P11 | exact P12 | exact P13 | exact P14 | exact P15 | exact P16 | exact P17 | exact P18 | exact P19 | exact P20 | exact P21 | exact P22 | exact P23)) | (apply Part.nilc))) ?_)
                                                            rintro v post H' ⟨rfl, sg9, hM9, rfl⟩ hH
                                                            try simp only [List.cons_append, List.nil_append] at hH
                                                            subst hH
                                                            refine SPL_nil ?_
                                                            refine inBlockP_n ?_
                                                            refine bodyP_end (H' := [sg9]) (Res0 rfl) (by repeat (first | exact Part.nil _ | (apply Part.cons; with_reducible (first | exact P0 | exact P1 | exact P2 | exact P3 | exact P4 | exact P5 | exact P6 | exact P7 | exact P8 | exact P9 | exact P10 | exact P11 | exact P12 | exact P13 | exact P14 | exact P15 | exact P16 | exact P17 | exact P18 | exact P19 | exact P20 | exact P21 | exact P22 | exact P23)) | (apply Part.flat; simp only [List.cons_append, List.nil_append]) | (apply Part.cons; (first | exact P0 | exact P1 | exact P2 | exact P3 | exact P4 | exact P5 | exact P6 | exact P7 | exact P8 | exact P9 | exact P10 | exact P11 | exact P12 | exact P13 | exact P14 | exact P15 | exact P16 | exact P17 | exact P18 | exact P19 | exact P20 | exact P21 | exact P22 | exact P23)) | (apply Part.nilc))) ?_
                                                            exact ⟨rfl, eb, hb, _, Gr.refl _ _, hM9, rfl⟩
                                                          · try dsimp only [cond_true, cond_false, Bool.true_or, Bool.false_or] at hP
                                                            refine SPO_p rfl (y_not_t rfl) rfl ?_
                                                            refine SPO_nil ?_
                                                            refine thenP_n ?_
                                                            refine SP_cond_f rfl ?_
                                                            refine SP_skip ?_
                                                            refine inBlockP_n ?_
                                                            refine bodyP_end (H' := [sg0]) (Res0 rfl) (by repeat (first | exact Part.nil _ | (apply Part.cons; with_reducible (first | exact P0 | exact P1 | exact P2 | exact P3 | exact P4 | exact P5 | exact P6 | exact P7 | exact P8 | exact P9 | exact P10 | exact P11 | exact P12 | exact P13 | exact P14 | exact P15 | exact P16 | exact P17 | exact P18 | exact P19 | exact P20 | exact P21 | exact P22 | exact P23)) | (apply Part.flat; simp only [List.cons_append, List.nil_append]) | (apply Part.cons; (first | exact P0 | exact P1 | exact P2 | exact P3 | exact P4 | exact P5 | exact P6 | exact P7 | exact P8 | exact P9 | exact P10 | exact P11 | exact P12 | exact P13 | exact P14 | exact P15 | exact P16 | exact P17 | exact P18 | exact P19 | exact P20 | exact P21 | exact P22 | exact P23)) | (apply Part.nilc))) ?_
                                                            rw [if_neg (by decide)] at hP
                                                            injection hP with hP
                                                            subst hP
                                                            exact ⟨rfl, eb, hb, _, Gr.refl _ _, hM0, rfl⟩
                                                      intro h126_0
                                                      first | rw [if_neg h126_0] at hP | rw [if_pos (Decidable.not_not.1 h126_0)] at hP | skip
                                                      as_aux_lemma =>
                                                        refine SPL_y (y_assign rfl) rfl ?_
                                                        refine SPL_nil ?_
                                                        refine thenP_n ?_
                                                        refine SP_cond_f rfl ?_
                                                        refine SP_seq ?_
                                                        refine SP_region ?_
                                                        refine SPL_ifn (y_eql rfl rfl) rfl ?_ ?_
                                                        · intro h130_0
                                                          first | rw [if_neg h130_0] at hP | rw [if_pos (Decidable.not_not.1 h130_0)] at hP | skip
                                                          refine SPL_y (y_assign rfl) rfl ?_
                                                          refine SPL_nil ?_
                                                          refine thenP_n ?_
                                                          refine SP_cond_f rfl ?_
                                                          refine SP_skip ?_
                                                          refine inBlockP_n ?_
                                                          refine bodyP_end (H' := [sg0]) (Res0 rfl) (by repeat (first | exact Part.nil _ | (apply Part.cons; with_reducible (first | exact P0 | exact P1 | exact P2 | exact P3 | exact P4 | exact P5 | exact P6 | exact P7 | exact P8 | exact P9 | exact P10 | exact P11 | exact P12 | exact P13 | exact P14 | exact P15 | exact P16 | exact P17 | exact P18 | exact P19 | exact P20 | exact P21 | exact P22 | exact P23)) | (apply Part.flat; simp only [List.cons_append, List.nil_append]) | (apply Part.cons; (first | exact P0 | exact P1 | exact P2 | exact P3 | exact P4 | exact P5 | exact P6 | exact P7 | exact P8 | exact P9 | exact P10 | exact P11 | exact P12 | exact P13 | exact P14 | exact P15 | exact P16 | exact P17 | exact P18 | exact P19 | exact P20 | exact P21 | exact P22 | exact P23)) | (apply Part.nilc))) ?_
                                                          injection hP with hP
                                                          subst hP
                                                          exact ⟨rfl, eb, hb, _, Gr.refl _ _, hM0, rfl⟩
                                                        intro h130_0
                                                        first | rw [if_pos h130_0] at hP | rw [if_neg h130_0] at hP | skip
                                                        as_aux_lemma =>
                                                          refine SPL_y (y_assign rfl) rfl ?_
                                                          refine SPL_nil ?_
                                                          refine thenP_n ?_
                                                          refine SP_cond_t rfl ?_
                                                          refine SP_seq ?_
                                                          unfold k28 at hP
                                                          refine SP_region ?_
                                                          refine SPL_y (y_move rfl) rfl ?_
                                                          obtain ⟨v1, m1, hq1, hP⟩ := bnd2 hP
                                                          refine SPL_one rfl (SP1_call (cm_pop x eb hb hq1 _ hM0) Tryz.call99 rfl rfl (by repeat (first | exact Part.nil _ | (apply Part.cons; with_reducible (first | exact P0 | exact P1 | exact P2 | exact P3 | exact P4 | exact P5 | exact P6 | exact P7 | exact P8 | exact P9 | exact P10 | exact P11 | exact P12 | exact P13 | exact P14 | exact P15 | exact P16 | exact P17 | exact P18 | exact P19 | exact P20 | exact P21 | exact P22 | exact P23)) | (apply Part.flat; simp only [List.cons_append, List.nil_append]) | (apply Part.cons; (first | exact P0 | exact P1 | exact P2 | exact P3 | exact P4 | exact P5 | exact P6 | exact P7 | exact P8 | exact P9 | exact P10 | exact P11 | exact P12 | exact P13 | exact P14 | exact P15 | exact P16 | exact P17 | exact P18 | exact P19 | exact P20 | exact P21 | exact P22 | exact P23)) | (apply Part.nilc))) ?_)
                                                          rintro v post H' ⟨rfl, sg1, hM1, rfl⟩ hH
                                                          try simp only [List.cons_append, List.nil_append] at hH
                                                          subst hH
                                                          refine SPL_one rfl (SP1_alloc Tryz.zeroValue42 rfl rfl ?_)
                                                          intro b40
                                                          refine SPL_one rfl (SP1_storeAll Tryz.sizeOf42 rfl rfl rfl rfl rfl (by first | exact U0 | exact U1 | exact U2 | exact U3 | exact U4 | exact U5 | exact U6 | exact U7 | exact U8 | exact U9 | exact U10 | exact U11 | exact U12 | exact U13 | exact U14 | exact U15 | exact U16 | exact U17 | exact U18 | exact U19 | exact U20 | exact U21 | exact U22 | exact U23) (by rfl) ?_)
                                                          refine SPL_nil ?_
                                                          refine thenP_n ?_
                                                          refine SP_seq ?_
                                                          refine SP_region ?_
                                                          refine SPL_y (y_move rfl) rfl ?_
                                                          obtain ⟨v2, m2, hq2, hP⟩ := bnd2 hP
                                                          refine SPL_one rfl (SP1_call (cm_pop x eb hb hq2 _ hM1) Tryz.call99 rfl rfl (by repeat (first | exact Part.nil _ | (apply Part.cons; with_reducible (first | exact P0 | exact P1 | exact P2 | exact P3 | exact P4 | exact P5 | exact P6 | exact P7 | exact P8 | exact P9 | exact P10 | exact P11 | exact P12 | exact P13 | exact P14 | exact P15 | exact P16 | exact P17 | exact P18 | exact P19 | exact P20 | exact P21 | exact P22 | exact P23)) | (apply Part.flat; simp only [List.cons_append, List.nil_append]) | (apply Part.cons; (first | exact P0 | exact P1 | exact P2 | exact P3 | exact P4 | exact P5 | exact P6 | exact P7 | exact P8 | exact P9 | exact P10 | exact P11 | exact P12 | exact P13 | exact P14 | exact P15 | exact P16 | exact P17 | exact P18 | exact P19 | exact P20 | exact P21 | exact P22 | exact P23)) | (apply Part.nilc))) ?_)
                                                          rintro v post H' ⟨rfl, sg2, hM2, rfl⟩ hH
                                                          try simp only [List.cons_append, List.nil_append] at hH
                                                          subst hH
                                                          refine SPL_one rfl (SP1_alloc Tryz.zeroValue42 rfl rfl ?_)
                                                          intro b41
                                                          refine SPL_one rfl (SP1_storeAll Tryz.sizeOf42 rfl rfl rfl rfl rfl (by first | exact U0 | exact U1 | exact U2 | exact U3 | exact U4 | exact U5 | exact U6 | exact U7 | exact U8 | exact U9 | exact U10 | exact U11 | exact U12 | exact U13 | exact U14 | exact U15 | exact U16 | exact U17 | exact U18 | exact U19 | exact U20 | exact U21 | exact U22 | exact U23) (by rfl) ?_)
                                                          refine SPL_nil ?_
                                                          refine thenP_n ?_
                                                          refine SP_seq ?_
                                                          refine SP_seq ?_
                                                          refine SP_region ?_
                                                          refine SPL_y (y_fa fld_42_0 rfl) rfl ?_
                                                          refine SPL_y (y_load Tryz.isAgg3 rfl (by repeat (first | exact Cell.amid hpre rfl | exact Cell.head rfl | apply Cell.tail))) rfl ?_
                                                          refine SPL_if (y_neq rfl rfl) rfl ?_ ?_
                                                          · intro h133_2
                                                            first | rw [if_pos h133_2] at hP | rw [if_neg h133_2] at hP | skip
                                                            as_aux_lemma =>
                                                              refine SPL_nil ?_
                                                              refine thenP_n ?_
                                                              refine SP_cond_t rfl ?_
                                                              refine SP_seq ?_
                                                              refine SP_region ?_
                                                              refine SPL_y (y_move rfl) rfl ?_
                                                              refine SPL_one rfl (SP1_call (cm_raise x eb hb hP _ hM2) Tryz.call104 rfl rfl (by repeat (first | exact Part.nil _ | (apply Part.cons; with_reducible (first | exact P0 | exact P1 | exact P2 | exact P3 | exact P4 | exact P5 | exact P6 | exact P7 | exact P8 | exact P9 | exact P10 | exact P11 | exact P12 | exact P13 | exact P14 | exact P15 | exact P16 | exact P17 | exact P18 | exact P19 | exact P20 | exact P21 | exact P22 | exact P23)) | (apply Part.flat; simp only [List.cons_append, List.nil_append]) | (apply Part.cons; (first | exact P0 | exact P1 | exact P2 | exact P3 | exact P4 | exact P5 | exact P6 | exact P7 | exact P8 | exact P9 | exact P10 | exact P11 | exact P12 | exact P13 | exact P14 | exact P15 | exact P16 | exact P17 | exact P18 | exact P19 | exact P20 | exact P21 | exact P22 | exact P23)) | (apply Part.nilc))) ?_)
                                                              rintro v post H' ⟨rfl, sg9, hM9, rfl⟩ hH
                                                              try simp only [List.cons_append, List.nil_append] at hH
                                                              subst hH
                                                              refine SPL_nil ?_
                                                              refine thenP_n ?_
                                                              refine SP_ret ?_
                                                              refine thenP_ret (inBlockP_ret (bodyP_ret (H' := [sg9]) (Res0 rfl) (by repeat (first | exact Part.nil _ | (apply Part.cons; with_reducible (first | exact P0 | exact P1 | exact P2 | exact P3 | exact P4 | exact P5 | exact P6 | exact P7 | exact P8 | exact P9 | exact P10 | exact P11 | exact P12 | exact P13 | exact P14 | exact P15 | exact P16 | exact P17 | exact P18 | exact P19 | exact P20 | exact P21 | exact P22 | exact P23)) | (apply Part.flat; simp only [List.cons_append, List.nil_append]) | (apply Part.cons; (first | exact P0 | exact P1 | exact P2 | exact P3 | exact P4 | exact P5 | exact P6 | exact P7 | exact P8 | exact P9 | exact P10 | exact P11 | exact P12 | exact P13 | exact P14 | exact P15 | exact P16 | exact P17 | exact P18 | exact P19 | exact P20 | exact P21 | exact P22 | exact P23)) | (apply Part.nilc))) ?_))
                                                              exact ⟨rfl, eb, hb, _, Gr.refl _ _, hM9, rfl⟩
                                                          intro h133_2
                                                          first | rw [if_neg h133_2] at hP | rw [if_pos (Decidable.not_not.1 h133_2)] at hP | skip
                                                          as_aux_lemma =>
                                                            refine SPL_nil ?_
                                                            refine thenP_n ?_
                                                            refine SP_cond_f rfl ?_
                                                            refine SP_skip ?_
                                                            refine thenP_n ?_
                                                            refine SP_seq ?_
                                                            have hg7 : tbOk m2 v2 ∧ numR v1 = true := Decidable.byContradiction fun z => by rw [if_neg z] at hP; cases hP
                                                            rw [if_pos hg7] at hP
                                                            obtain ⟨⟨ht1, ht2, ht3⟩, hnr⟩ := hg7
                                                            obtain ⟨tak, htak⟩ : ∃ k : Nat, v2.n = k := ⟨v2.n.toNat, by omega⟩
                                                            have haj : tak < m2.ts.length := by omega
                                                            rw [htak, Int.toNat_natCast] at hP ht3
                                                            rw [getD_at haj] at ht3
                                                            have hnr2 : 0 ≤ v1.n ∧ v1.n < 18446744073709551616 := of_decide_eq_true hnr
                                                            obtain ⟨A, sB, hsE, hTm, hcT, hputT⟩ := isRm_tab hM2
                                                            rw [hsE]
                                                            refine SP_openAt [A, sB] (by first | exact P0 | exact P1 | exact P2 | exact P3 | exact P4 | exact P5 | exact P6 | exact P7 | exact P8 | exact P9 | exact P10 | exact P11 | exact P12 | exact P13 | exact P14 | exact P15 | exact P16 | exact P17 | exact P18 | exact P19 | exact P20 | exact P21 | exact P22 | exact P23) ?_
                                                            simp only [List.cons_append, List.nil_append]
                                                            refine SP_drawG 8 mixed (Part.refl _) ?_
                                                            refine SPG_pre (fuel' := 7) [(0, 0), (1, 0), (2, 0), (4, 0), (3, 1), (5, 1), (6, 0), (7, 1)] (by kernel_rfl) (fun _ _ _ _ _ h => h) ?_
                                                            refine SPP_p rfl (y_move rfl) rfl ?_
                                                            refine SPP_p rfl (y_nil rfl) rfl ?_
                                                            refine SPP_p rfl (y_fa fld_142_1 rfl) rfl ?_
                                                            refine SPP_p rfl (y_fa fld_42_1 rfl) rfl ?_
                                                            refine SPP_h rfl (y_load Tryz.isAgg80 rfl (by repeat (first | exact hcT _ | apply Cell.tail))) rfl ?_
                                                            refine SPP_h rfl (y_load Tryz.isAgg40 rfl (by repeat (first | exact Cell.amid hpre rfl | exact Cell.head rfl | apply Cell.tail))) rfl ?_
                                                            refine SPP_p rfl (y_conv Tryz.underlying40 Tryz.underlying3 rfl (show IntKind.i64.wrap v2.n = ((tak : Nat) : Int) by rw [htak, IntKind.wrap_i64]; omega)) rfl ?_
                                                            refine SPP_h rfl (y_loads Tryz.isAgg42 Tryz.sizeOf42 rfl rfl (by repeat (first | exact Cells.all _ | exact Cells.amid hpre rfl (by decide) | exact Cells.head rfl | apply Cells.tail))) rfl ?_
                                                            refine SPP_nil ?_
                                                            refine SPG_two (i := 8) (j := 12) (by kernel_rfl) rfl rfl rfl rfl ?_ ?_
                                                            · refine SP1_call (tm_Get x.tb x.nb m2.ts sB hTm tak haj ht2 ht3 v1 hnr2) Tryz.call114 rfl rfl (by repeat (first | exact Part.nil _ | (apply Part.cons; with_reducible (first | exact P0 | exact P1 | exact P2 | exact P3 | exact P4 | exact P5 | exact P6 | exact P7 | exact P8 | exact P9 | exact P10 | exact P11 | exact P12 | exact P13 | exact P14 | exact P15 | exact P16 | exact P17 | exact P18 | exact P19 | exact P20 | exact P21 | exact P22 | exact P23)) | (apply Part.flat; simp only [List.cons_append, List.nil_append]) | (apply Part.cons; (first | exact P0 | exact P1 | exact P2 | exact P3 | exact P4 | exact P5 | exact P6 | exact P7 | exact P8 | exact P9 | exact P10 | exact P11 | exact P12 | exact P13 | exact P14 | exact P15 | exact P16 | exact P17 | exact P18 | exact P19 | exact P20 | exact P21 | exact P22 | exact P23)) | (apply Part.nilc))) ?_
                                                              rintro v post H' ⟨rfl, rfl⟩ hH
                                                              try simp only [List.cons_append, List.nil_append] at hH
                                                              subst hH
                                                              refine ⟨fun h => absurd rfl h, ?_⟩
                                                              refine SPG_ord [(9, 0), (10, 0), (11, 0), (12, 3), (13, 3), (14, 0)] (by kernel_rfl) (fun _ _ _ _ _ h => h) ?_
                                                              refine SPO_p rfl (y_move rfl) rfl ?_
                                                              refine SPO_p rfl (y_ext rfl rfl) rfl ?_
                                                              refine SPO_p rfl (y_ext rfl rfl) rfl ?_
                                                              refine SPO_z (k := 0) rfl rfl (SP1_alloc Tryz.zeroValue42 rfl rfl ?_)
                                                              intro b42
                                                              refine SPO_z (k := 0) rfl rfl (SP1_storeAll Tryz.sizeOf42 rfl rfl rfl rfl rfl (by first | exact U0 | exact U1 | exact U2 | exact U3 | exact U4 | exact U5 | exact U6 | exact U7 | exact U8 | exact U9 | exact U10 | exact U11 | exact U12 | exact U13 | exact U14 | exact U15 | exact U16 | exact U17 | exact U18 | exact U19 | exact U20 | exact U21 | exact U22 | exact U23) (by rfl) ?_)
                                                              refine SPO_p rfl (y_assign rfl) rfl ?_
                                                              refine SPO_nil ?_
                                                              refine thenP_n ?_
                                                              refine SP_part (H' := [List.flatten [A, sB], blk b3 206 (tskV eb q), blk b4 158 (ndV d), blk b42 42 (valV (getW m2.ts tak v1).1)]) (by repeat (first | exact Part.nil _ | (apply Part.cons; with_reducible (first | exact P0 | exact P1 | exact P2 | exact P3 | exact P4 | exact P5 | exact P6 | exact P7 | exact P8 | exact P9 | exact P10 | exact P11 | exact P12 | exact P13 | exact P14 | exact P15 | exact P16 | exact P17 | exact P18 | exact P19 | exact P20 | exact P21 | exact P22 | exact P23)) | (apply Part.flat; simp only [List.cons_append, List.nil_append]) | (apply Part.cons; (first | exact P0 | exact P1 | exact P2 | exact P3 | exact P4 | exact P5 | exact P6 | exact P7 | exact P8 | exact P9 | exact P10 | exact P11 | exact P12 | exact P13 | exact P14 | exact P15 | exact P16 | exact P17 | exact P18 | exact P19 | exact P20 | exact P21 | exact P22 | exact P23)) | (apply Part.nilc))) ?_
                                                              rw [← hsE]
                                                              refine SP_region ?_
                                                              refine SPL_y (y_move rfl) rfl ?_
                                                              refine SPL_y (y_loads Tryz.isAgg42 Tryz.sizeOf42 rfl rfl (by repeat (first | exact Cells.all _ | exact Cells.amid hpre rfl (by decide) | exact Cells.head rfl | apply Cells.tail))) rfl ?_
                                                              refine SPL_one rfl (SP1_call (cm_push x eb hb (getW m2.ts tak v1).1 hP _ hM2) Tryz.call107 rfl rfl (by repeat (first | exact Part.nil _ | (apply Part.cons; with_reducible (first | exact P0 | exact P1 | exact P2 | exact P3 | exact P4 | exact P5 | exact P6 | exact P7 | exact P8 | exact P9 | exact P10 | exact P11 | exact P12 | exact P13 | exact P14 | exact P15 | exact P16 | exact P17 | exact P18 | exact P19 | exact P20 | exact P21 | exact P22 | exact P23)) | (apply Part.flat; simp only [List.cons_append, List.nil_append]) | (apply Part.cons; (first | exact P0 | exact P1 | exact P2 | exact P3 | exact P4 | exact P5 | exact P6 | exact P7 | exact P8 | exact P9 | exact P10 | exact P11 | exact P12 | exact P13 | exact P14 | exact P15 | exact P16 | exact P17 | exact P18 | exact P19 | exact P20 | exact P21 | exact P22 | exact P23)) | (apply Part.nilc))) ?_)
                                                              rintro v post H' ⟨rfl, sg9, hM9, rfl⟩ hH
                                                              try simp only [List.cons_append, List.nil_append] at hH
                                                              subst hH
                                                              refine SPL_nil ?_
                                                              refine inBlockP_n ?_
                                                              refine bodyP_end (H' := [sg9]) (Res0 rfl) (by repeat (first | exact Part.nil _ | (apply Part.cons; with_reducible (first | exact P0 | exact P1 | exact P2 | exact P3 | exact P4 | exact P5 | exact P6 | exact P7 | exact P8 | exact P9 | exact P10 | exact P11 | exact P12 | exact P13 | exact P14 | exact P15 | exact P16 | exact P17 | exact P18 | exact P19 | exact P20 | exact P21 | exact P22 | exact P23)) | (apply Part.flat; simp only [List.cons_append, List.nil_append]) | (apply Part.cons; (first | exact P0 | exact P1 | exact P2 | exact P3 | exact P4 | exact P5 | exact P6 | exact P7 | exact P8 | exact P9 | exact P10 | exact P11 | exact P12 | exact P13 | exact P14 | exact P15 | exact P16 | exact P17 | exact P18 | exact P19 | exact P20 | exact P21 | exact P22 | exact P23)) | (apply Part.nilc))) ?_
                                                              exact ⟨rfl, eb, hb, _, Gr.refl _ _, hM9, rfl⟩
                                                            refine SP1_alloc Tryz.zeroValue42 rfl rfl ?_
                                                            intro b42
                                                            refine ⟨fun _ => ⟨_, (by repeat (first | exact Part.nil _ | (apply Part.cons; with_reducible (first | exact P0 | exact P1 | exact P2 | exact P3 | exact P4 | exact P5 | exact P6 | exact P7 | exact P8 | exact P9 | exact P10 | exact P11 | exact P12 | exact P13 | exact P14 | exact P15 | exact P16 | exact P17 | exact P18 | exact P19 | exact P20 | exact P21 | exact P22 | exact P23)) | (apply Part.flat; simp only [List.cons_append, List.nil_append]) | (apply Part.cons; (first | exact P0 | exact P1 | exact P2 | exact P3 | exact P4 | exact P5 | exact P6 | exact P7 | exact P8 | exact P9 | exact P10 | exact P11 | exact P12 | exact P13 | exact P14 | exact P15 | exact P16 | exact P17 | exact P18 | exact P19 | exact P20 | exact P21 | exact P22 | exact P23)) | (apply Part.nilc)))⟩, ?_⟩
                                                            refine SPG_ord [(8, 3), (9, 0), (10, 0), (11, 0), (13, 3), (14, 0)] (by kernel_rfl) (fun _ _ _ _ _ h => h) ?_
                                                            refine SPO_z (k := 0) rfl rfl (SP1_call (tm_Get x.tb x.nb m2.ts sB hTm tak haj ht2 ht3 v1 hnr2) Tryz.call114 rfl rfl (by repeat (first | exact Part.nil _ | (apply Part.cons; with_reducible (first | exact P0 | exact P1 | exact P2 | exact P3 | exact P4 | exact P5 | exact P6 | exact P7 | exact P8 | exact P9 | exact P10 | exact P11 | exact P12 | exact P13 | exact P14 | exact P15 | exact P16 | exact P17 | exact P18 | exact P19 | exact P20 | exact P21 | exact P22 | exact P23)) | (apply Part.flat; simp only [List.cons_append, List.nil_append]) | (apply Part.cons; (first | exact P0 | exact P1 | exact P2 | exact P3 | exact P4 | exact P5 | exact P6 | exact P7 | exact P8 | exact P9 | exact P10 | exact P11 | exact P12 | exact P13 | exact P14 | exact P15 | exact P16 | exact P17 | exact P18 | exact P19 | exact P20 | exact P21 | exact P22 | exact P23)) | (apply Part.nilc))) ?_)
                                                            rintro v post H' ⟨rfl, rfl⟩ hH
                                                            try simp only [List.cons_append, List.nil_append] at hH
                                                            subst hH
                                                            refine SPO_p rfl (y_move rfl) rfl ?_
                                                            refine SPO_p rfl (y_ext rfl rfl) rfl ?_
                                                            refine SPO_p rfl (y_ext rfl rfl) rfl ?_
                                                            refine SPO_z (k := 0) rfl rfl (SP1_storeAll Tryz.sizeOf42 rfl rfl rfl rfl rfl (by first | exact U0 | exact U1 | exact U2 | exact U3 | exact U4 | exact U5 | exact U6 | exact U7 | exact U8 | exact U9 | exact U10 | exact U11 | exact U12 | exact U13 | exact U14 | exact U15 | exact U16 | exact U17 | exact U18 | exact U19 | exact U20 | exact U21 | exact U22 | exact U23) (by rfl) ?_)
                                                            refine SPO_p rfl (y_assign rfl) rfl ?_
                                                            refine SPO_nil ?_
                                                            refine thenP_n ?_
                                                            refine SP_part (H' := [List.flatten [A, sB], blk b3 206 (tskV eb q), blk b4 158 (ndV d), blk b42 42 (valV (getW m2.ts tak v1).1)]) (by repeat (first | exact Part.nil _ | (apply Part.cons; with_reducible (first | exact P0 | exact P1 | exact P2 | exact P3 | exact P4 | exact P5 | exact P6 | exact P7 | exact P8 | exact P9 | exact P10 | exact P11 | exact P12 | exact P13 | exact P14 | exact P15 | exact P16 | exact P17 | exact P18 | exact P19 | exact P20 | exact P21 | exact P22 | exact P23)) | (apply Part.flat; simp only [List.cons_append, List.nil_append]) | (apply Part.cons; (first | exact P0 | exact P1 | exact P2 | exact P3 | exact P4 | exact P5 | exact P6 | exact P7 | exact P8 | exact P9 | exact P10 | exact P11 | exact P12 | exact P13 | exact P14 | exact P15 | exact P16 | exact P17 | exact P18 | exact P19 | exact P20 | exact P21 | exact P22 | exact P23)) | (apply Part.nilc))) ?_
                                                            rw [← hsE]
                                                            refine SP_region ?_
                                                            refine SPL_y (y_move rfl) rfl ?_
                                                            refine SPL_y (y_loads Tryz.isAgg42 Tryz.sizeOf42 rfl rfl (by repeat (first | exact Cells.all _ | exact Cells.amid hpre rfl (by decide) | exact Cells.head rfl | apply Cells.tail))) rfl ?_
                                                            refine SPL_one rfl (SP1_call (cm_push x eb hb (getW m2.ts tak v1).1 hP _ hM2) Tryz.call107 rfl rfl (by repeat (first | exact Part.nil _ | (apply Part.cons; with_reducible (first | exact P0 | exact P1 | exact P2 | exact P3 | exact P4 | exact P5 | exact P6 | exact P7 | exact P8 | exact P9 | exact P10 | exact P11 | exact P12 | exact P13 | exact P14 | exact P15 | exact P16 | exact P17 | exact P18 | exact P19 | exact P20 | exact P21 | exact P22 | exact P23)) | (apply Part.flat; simp only [List.cons_append, List.nil_append]) | (apply Part.cons; (first | exact P0 | exact P1 | exact P2 | exact P3 | exact P4 | exact P5 | exact P6 | exact P7 | exact P8 | exact P9 | exact P10 | exact P11 | exact P12 | exact P13 | exact P14 | exact P15 | exact P16 | exact P17 | exact P18 | exact P19 | exact P20 | exact P21 | exact P22 | exact P23)) | (apply Part.nilc))) ?_)
                                                            rintro v post H' ⟨rfl, sg9, hM9, rfl⟩ hH
                                                            try simp only [List.cons_append, List.nil_append] at hH
                                                            subst hH
                                                            refine SPL_nil ?_
                                                            refine inBlockP_n ?_
                                                            refine bodyP_end (H' := [sg9]) (Res0 rfl) (by repeat (first | exact Part.nil _ | (apply Part.cons; with_reducible (first | exact P0 | exact P1 | exact P2 | exact P3 | exact P4 | exact P5 | exact P6 | exact P7 | exact P8 | exact P9 | exact P10 | exact P11 | exact P12 | exact P13 | exact P14 | exact P15 | exact P16 | exact P17 | exact P18 | exact P19 | exact P20 | exact P21 | exact P22 | exact P23)) | (apply Part.flat; simp only [List.cons_append, List.nil_append]) | (apply Part.cons; (first | exact P0 | exact P1 | exact P2 | exact P3 | exact P4 | exact P5 | exact P6 | exact P7 | exact P8 | exact P9 | exact P10 | exact P11 | exact P12 | exact P13 | exact P14 | exact P15 | exact P16 | exact P17 | exact P18 | exact P19 | exact P20 | exact P21 | exact P22 | exact P23)) | (apply Part.nilc))) ?_
                                                            exact ⟨rfl, eb, hb, _, Gr.refl _ _, hM9, rfl⟩

end Go.Sl
