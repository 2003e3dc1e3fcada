/- Walks: package table, all tables (made by program out of short notes) -/
import Derived.Test.Qxb6500573aGreatDoorWMig
namespace Go.Sl
open Go Go.Wl Go.Proofs
set_option maxRecDepth 100000
set_option linter.unusedVariables false
set_option linter.unusedSimpArgs false
theorem fill_ent (k v : V) : Instr.fill (fun i => [(0, 3), (3, 3)][i]?) [Value.int .i64 0, .int .u64 0, .string ⟨⟨[]⟩⟩, .int .i64 0, .int .u64 0, .string ⟨⟨[]⟩⟩].toArray [(0, .agg (valV k).toArray), (1, .agg (valV v).toArray)] = some (entV (k, v)).toArray := rfl
theorem tabR_mk {t : Tb} {n1 n2 : Nat} {dd : Int} {oa aa : Option Addr} {oc ac nb sb rb : Nat} {so sa sn ss sr : Seg} (e1 : t.order.length = n1) (e2 : t.arr.length = n2) (e3 : t.dead = dd) (ho : Arr 257 6 oa n1 oc (t.order.flatMap entV) so) (ha : Arr 21 1 aa n2 ac (t.arr.map i32V) sa) (hn : isMap u64K i32V nb t.nums sn) (hs : isMap S i32V sb t.strs ss) (hr : isMap u64K i32V rb t.refs sr) :
    tabR t [.slice oa n1 oc, .slice aa n2 ac, .map (some nb), .map (some sb), .map (some rb), I dd] (List.flatten [so, sa, sn, ss, sr]) := by
  subst e1 e2 e3
  exact ⟨oa, oc, aa, ac, nb, sb, rb, so, sa, sn, ss, sr, rfl, rfl, ho, ha, hn, hs, hr⟩
theorem turn_len (t : Tb) (p : Nat) (v : V) : (t.turn p v).order.length = t.order.length := by unfold Tb.turn; simp
theorem setT_len {t t2 : Tb} {k v : V} {i e : Int} (h : setT t k v i = some (t2, e)) : True := trivial
theorem isTabs_len {b nb : Nat} {ts : List Tb} {s : Seg} (h : isTabs b nb ts s) : ∃ r1 s1, s = List.flatten [blk b 103 [.pointer (some ⟨nb, 0, none⟩), r1, I ts.length], s1] := by
  obtain ⟨ta, tc, k, cs, st, sa, rfl, _, _, _⟩ := h
  exact ⟨_, sa ++ st, by simp; rfl⟩
theorem tabs_Count (b nb : Nat) (ts : List Tb) (s : Seg) (hts : isTabs b nb ts s) : Spec Tryz.prog 178 [.pointer (some ⟨b, 0, none⟩)] [s] (Ret fun v H => v = I ts.length ∧ H = [s]) := by
  obtain ⟨r1, s1, rfl⟩ := isTabs_len hts
  refine Spec_openAt [blk b 103 [.pointer (some ⟨nb, 0, none⟩), r1, I ts.length], s1] (by first | exact P0 | exact P1 | exact P2 | exact P3 | exact P4 | exact P5 | exact P6 | exact P7 | exact P8 | exact P9 | exact P10 | exact P11 | exact P12 | exact P13 | exact P14 | exact P15 | exact P16 | exact P17 | exact P18 | exact P19 | exact P20 | exact P21 | exact P22 | exact P23) ?_
  simp only [List.cons_append, List.nil_append]
  refine Spec_enter Tryz.func178 rfl Tryz.ntmps178 rfl ?_
  show SP _ _ _ _ _ [(0, _)] _
  refine SP_seq ?_
  refine SP_region ?_
  refine SPL_y (y_assign rfl) rfl ?_
  refine SPL_nil ?_
  refine thenP_n ?_
  refine SP_seq ?_
  refine SP_region ?_
  refine SPL_y (y_move rfl) rfl ?_
  refine SPL_y (y_nil rfl) rfl ?_
  refine SPL_y (y_fa fld_103_2 rfl) rfl ?_
  refine SPL_y (y_load Tryz.isAgg3 rfl (by repeat (first | exact Cell.amid hpre rfl | exact Cell.head rfl | apply Cell.tail))) rfl ?_
  refine SPL_y (y_assign rfl) rfl ?_
  refine SPL_nil ?_
  refine thenP_n ?_
  refine SP_ret ?_
  refine bodyP_ret (H' := [List.flatten [blk b 103 [.pointer (some ⟨nb, 0, none⟩), r1, I ts.length], s1]]) (Res1 rfl rfl) (by repeat (first | exact Part.nil _ | (apply Part.cons; with_reducible (first | exact P0 | exact P1 | exact P2 | exact P3 | exact P4 | exact P5 | exact P6 | exact P7 | exact P8 | exact P9 | exact P10 | exact P11 | exact P12 | exact P13 | exact P14 | exact P15 | exact P16 | exact P17 | exact P18 | exact P19 | exact P20 | exact P21 | exact P22 | exact P23)) | (apply Part.flat; simp only [List.cons_append, List.nil_append]) | (apply Part.cons; (first | exact P0 | exact P1 | exact P2 | exact P3 | exact P4 | exact P5 | exact P6 | exact P7 | exact P8 | exact P9 | exact P10 | exact P11 | exact P12 | exact P13 | exact P14 | exact P15 | exact P16 | exact P17 | exact P18 | exact P19 | exact P20 | exact P21 | exact P22 | exact P23)) | (apply Part.nilc))) ?_
  exact ⟨rfl, rfl⟩

theorem tabs_Get (b nb : Nat) (ts : List Tb) (s : Seg) (hts : isTabs b nb ts s) (hl : ts.length ≤ 1000) (j : Nat) (hj : j < ts.length) (k : V) (hkn : 0 ≤ k.n) (r : V) (e : Int) (h : getM ts j k = some (r, e)) : Spec Tryz.prog 292 [.pointer (some ⟨b, 0, none⟩), I j, .agg (valV k).toArray] [s] (Ret fun v H => v = .tuple #[.agg (valV r).toArray, I e] ∧ ∃ s', isTabs b nb ts s' ∧ H = [s']) := by
  have hts0 := hts
  obtain ⟨tb, tl, tc, c0, ci, c2, s0, si, s2, rfl, hpre, hjl, hR, hput⟩ := isTabs_open hts hj
  obtain ⟨oa, oc, aa, ac, mn, ms, mr, so, sa, sn, ss, sr, rfl, rfl, ho, ha, hn, hs, hr⟩ := hR
  refine Spec_openAt [blk b 103 [.pointer (some ⟨nb, 0, none⟩), .slice (some ⟨tb, 0, none⟩) tl tc, I ts.length], blk tb 245 (c0 ++ [.slice oa (ts[j].order.length) oc, .slice aa (ts[j].arr.length) ac, .map (some mn), .map (some ms), .map (some mr), I (ts[j].dead)] ++ c2), s0, List.flatten [so, sa, sn, ss, sr], s2] (by first | exact P0 | exact P1 | exact P2 | exact P3 | exact P4 | exact P5 | exact P6 | exact P7 | exact P8 | exact P9 | exact P10 | exact P11 | exact P12 | exact P13 | exact P14 | exact P15 | exact P16 | exact P17 | exact P18 | exact P19 | exact P20 | exact P21 | exact P22 | exact P23) ?_
  simp only [List.cons_append, List.nil_append]
  refine Spec_openAt [so, sa, sn, ss, sr] (by first | exact P0 | exact P1 | exact P2 | exact P3 | exact P4 | exact P5 | exact P6 | exact P7 | exact P8 | exact P9 | exact P10 | exact P11 | exact P12 | exact P13 | exact P14 | exact P15 | exact P16 | exact P17 | exact P18 | exact P19 | exact P20 | exact P21 | exact P22 | exact P23) ?_
  simp only [List.cons_append, List.nil_append]
  obtain ⟨kt, kn, ks⟩ := k
  dsimp only [valV]
  unfold getM at h
  rw [if_neg (by omega)] at h
  have hgd : ts.getD ((j : Nat) : Int).toNat Tb.empty = ts[j] := by rw [Int.toNat_natCast, List.getD_eq_getElem?_getD, List.getElem?_eq_getElem hj]; rfl
  rw [hgd] at h
  dsimp only at h
  refine Spec_enter Tryz.func292 rfl Tryz.ntmps292 rfl ?_
  show SP _ _ _ _ _ [(0, _), (1, _), (2, _)] _
  refine SP_seq ?_
  refine SP_region ?_
  refine SPL_one rfl (SP1_box rfl rfl rfl ?_)
  intro b5
  refine SPL_one rfl (SP1_alloc Tryz.zeroValue42 rfl rfl ?_)
  intro b6
  refine SPL_y (y_assign rfl) rfl ?_
  refine SPL_nil ?_
  refine thenP_n ?_
  refine SP_seq ?_
  refine SP_seq ?_
  refine SP_region ?_
  refine SPL_y (y_move rfl) rfl ?_
  refine SPL_if (y_lss rfl rfl) rfl ?_ ?_
  · intro h1_1
    omega
  intro h1_1
  refine SPL_y (y_move rfl) rfl ?_
  refine SPL_gy rfl rfl ?_
  refine SPL_y (y_move rfl) rfl ?_
  refine SPL_gy rfl rfl ?_
  refine SPL_y (y_move rfl) rfl ?_
  refine SPL_gy rfl rfl ?_
  refine SPL_y (y_nil rfl) rfl ?_
  refine SPL_gy rfl rfl ?_
  refine SPL_y (y_fa fld_103_2 rfl) rfl ?_
  refine SPL_gy rfl rfl ?_
  refine SPL_y (y_load Tryz.isAgg3 rfl (by repeat (first | exact Cell.amid hpre rfl | exact Cell.head rfl | apply Cell.tail))) rfl ?_
  refine SPL_gy rfl rfl ?_
  refine SPL_if (y_geq rfl rfl) rfl ?_ ?_
  · intro h1_8
    omega
  intro h1_8
  refine SPL_y (y_pick_f rfl rfl) rfl ?_
  refine SPL_nil ?_
  refine thenP_n ?_
  refine SP_cond_f rfl ?_
  refine SP_skip ?_
  refine thenP_n ?_
  refine SP_seq ?_
  refine SP_seq ?_
  refine SP_region ?_
  refine SPL_y (y_loads Tryz.isAgg42 Tryz.sizeOf42 rfl rfl (by repeat (first | exact Cells.all _ | exact Cells.amid hpre rfl (by decide) | exact Cells.head rfl | apply Cells.tail))) rfl ?_
  refine SPL_one rfl (SP1_call (api_WellFormed ⟨kt, kn, ks⟩) Tryz.call91 rfl rfl (by repeat (first | exact Part.nil _ | (apply Part.cons; with_reducible (first | exact P0 | exact P1 | exact P2 | exact P3 | exact P4 | exact P5 | exact P6 | exact P7 | exact P8 | exact P9 | exact P10 | exact P11 | exact P12 | exact P13 | exact P14 | exact P15 | exact P16 | exact P17 | exact P18 | exact P19 | exact P20 | exact P21 | exact P22 | exact P23)) | (apply Part.flat; simp only [List.cons_append, List.nil_append]) | (apply Part.cons; (first | exact P0 | exact P1 | exact P2 | exact P3 | exact P4 | exact P5 | exact P6 | exact P7 | exact P8 | exact P9 | exact P10 | exact P11 | exact P12 | exact P13 | exact P14 | exact P15 | exact P16 | exact P17 | exact P18 | exact P19 | exact P20 | exact P21 | exact P22 | exact P23)) | (apply Part.nilc))) ?_)
  rintro v post H' ⟨rfl, rfl⟩ hH
  try simp only [List.cons_append, List.nil_append] at hH
  subst hH
  generalize hw : well ⟨kt, kn, ks⟩ = w at h ⊢
  rcases w with _ | _
  · refine SPL_y (y_not_f rfl) rfl ?_
    refine SPL_nil ?_
    refine thenP_n ?_
    refine SP_cond_t rfl ?_
    refine SP_seq ?_
    refine SP_region ?_
    refine SPL_y (y_build B42 rfl rfl (by simp only [fillL, List.foldl_cons, List.foldl_nil, List.set_cons_zero, List.set_cons_succ]; exact rfl)) rfl ?_
    refine SPL_one rfl (SP1_storeAll Tryz.sizeOf42 rfl rfl rfl rfl rfl (by first | exact U0 | exact U1 | exact U2 | exact U3 | exact U4 | exact U5 | exact U6 | exact U7 | exact U8 | exact U9 | exact U10 | exact U11 | exact U12 | exact U13 | exact U14 | exact U15 | exact U16 | exact U17 | exact U18 | exact U19 | exact U20 | exact U21 | exact U22 | exact U23) (by rfl) ?_)
    refine SPL_y (y_assign rfl) rfl ?_
    refine SPL_nil ?_
    refine thenP_n ?_
    refine SP_ret ?_
    refine thenP_ret (bodyP_ret (H' := [List.flatten [blk b 103 [.pointer (some ⟨nb, 0, none⟩), .slice (some ⟨tb, 0, none⟩) tl tc, I ts.length], blk tb 245 (c0 ++ [.slice oa (ts[j].order.length) oc, .slice aa (ts[j].arr.length) ac, .map (some mn), .map (some ms), .map (some mr), I (ts[j].dead)] ++ c2), s0, List.flatten [so, sa, sn, ss, sr], s2]]) (ResCT rfl rfl rfl Tryz.isAgg42 Tryz.sizeOf42 rfl (by repeat (first | exact Cells.all _ | exact Cells.head rfl | apply Cells.tail))) (by repeat (first | exact Part.nil _ | (apply Part.cons; with_reducible (first | exact P0 | exact P1 | exact P2 | exact P3 | exact P4 | exact P5 | exact P6 | exact P7 | exact P8 | exact P9 | exact P10 | exact P11 | exact P12 | exact P13 | exact P14 | exact P15 | exact P16 | exact P17 | exact P18 | exact P19 | exact P20 | exact P21 | exact P22 | exact P23)) | (apply Part.flat; simp only [List.cons_append, List.nil_append]) | (apply Part.cons; (first | exact P0 | exact P1 | exact P2 | exact P3 | exact P4 | exact P5 | exact P6 | exact P7 | exact P8 | exact P9 | exact P10 | exact P11 | exact P12 | exact P13 | exact P14 | exact P15 | exact P16 | exact P17 | exact P18 | exact P19 | exact P20 | exact P21 | exact P22 | exact P23)) | (apply Part.nilc))) ?_)
    rw [if_pos rfl] at h
    cases h
    exact ⟨rfl, _, hts0, rfl⟩
  · refine SPL_y (y_not_t rfl) rfl ?_
    refine SPL_nil ?_
    refine thenP_n ?_
    refine SP_cond_f rfl ?_
    refine SP_skip ?_
    refine thenP_n ?_
    refine SP_seq ?_
    refine SP_region ?_
    refine SPL_y (y_move rfl) rfl ?_
    refine SPL_y (y_nil rfl) rfl ?_
    refine SPL_y (y_fa fld_103_1 rfl) rfl ?_
    refine SPL_y (y_load Tryz.isAgg101 rfl (by repeat (first | exact Cell.amid hpre rfl | exact Cell.head rfl | apply Cell.tail))) rfl ?_
    refine SPL_y (y_move rfl) rfl ?_
    refine SPL_y (y_ia Tryz.underlying101 Tryz.sizeOf245 rfl rfl (by omega)) rfl ?_
    refine SPL_y (y_assign rfl) rfl ?_
    refine SPL_nil ?_
    refine thenP_n ?_
    refine SP_seq ?_
    refine SP_region ?_
    rw [if_neg (by decide)] at h
    obtain ⟨k2, i, hone⟩ : ∃ k2 i, oneV ⟨kt, kn, ks⟩ = some (k2, i) := by
      cases hq : oneV ⟨kt, kn, ks⟩ with
      | none => rw [hq] at h; cases h
      | some r => exact ⟨r.1, r.2, rfl⟩
    rw [hone] at h
    dsimp only at h
    have hir : -9223372036854775808 ≤ i ∧ i ≤ 9223372036854775807 := Decidable.byContradiction fun q => by rw [if_neg q] at h; cases h
    rw [if_pos hir] at h
    refine SPL_y (y_move rfl) rfl ?_
    refine SPL_y (y_loads Tryz.isAgg42 Tryz.sizeOf42 rfl rfl (by repeat (first | exact Cells.all _ | exact Cells.amid hpre rfl (by decide) | exact Cells.head rfl | apply Cells.tail))) rfl ?_
    refine SPL_one rfl (SP1_call (tab_one b _ _ _ ⟨kt, kn, ks⟩ hkn k2 i hone) Tryz.call134 rfl rfl (by repeat (first | exact Part.nil _ | (apply Part.cons; with_reducible (first | exact P0 | exact P1 | exact P2 | exact P3 | exact P4 | exact P5 | exact P6 | exact P7 | exact P8 | exact P9 | exact P10 | exact P11 | exact P12 | exact P13 | exact P14 | exact P15 | exact P16 | exact P17 | exact P18 | exact P19 | exact P20 | exact P21 | exact P22 | exact P23)) | (apply Part.flat; simp only [List.cons_append, List.nil_append]) | (apply Part.cons; (first | exact P0 | exact P1 | exact P2 | exact P3 | exact P4 | exact P5 | exact P6 | exact P7 | exact P8 | exact P9 | exact P10 | exact P11 | exact P12 | exact P13 | exact P14 | exact P15 | exact P16 | exact P17 | exact P18 | exact P19 | exact P20 | exact P21 | exact P22 | exact P23)) | (apply Part.nilc))) ?_)
    rintro v post H' ⟨rfl, rfl⟩ hH
    try simp only [List.cons_append, List.nil_append] at hH
    subst hH
    refine SPL_y (y_move rfl) rfl ?_
    refine SPL_y (y_ext rfl rfl) rfl ?_
    refine SPL_y (y_ext rfl rfl) rfl ?_
    refine SPL_one rfl (SP1_storeAll Tryz.sizeOf42 rfl rfl rfl rfl rfl (by first | exact U0 | exact U1 | exact U2 | exact U3 | exact U4 | exact U5 | exact U6 | exact U7 | exact U8 | exact U9 | exact U10 | exact U11 | exact U12 | exact U13 | exact U14 | exact U15 | exact U16 | exact U17 | exact U18 | exact U19 | exact U20 | exact U21 | exact U22 | exact U23) (by rfl) ?_)
    refine SPL_y (y_assign rfl) rfl ?_
    refine SPL_nil ?_
    refine thenP_n ?_
    refine SP_seq ?_
    refine SP_region ?_
    refine SPL_y (y_move rfl) rfl ?_
    refine SPL_y (y_loads Tryz.isAgg42 Tryz.sizeOf42 rfl rfl (by repeat (first | exact Cells.all _ | exact Cells.amid hpre rfl (by decide) | exact Cells.head rfl | apply Cells.tail))) rfl ?_
    refine SPL_y (y_move rfl) rfl ?_
    refine SPL_one rfl (SP1_call (tab_find tb (0 + ((j : Nat) : Int).toNat * 6) c0 c2 hpre ts[j] oa aa oc ac mn ms mr so sa sn ss sr ho ha hn hs hr k2 i hir) Tryz.call135 rfl rfl (by repeat (first | exact Part.nil _ | (apply Part.cons; with_reducible (first | exact P0 | exact P1 | exact P2 | exact P3 | exact P4 | exact P5 | exact P6 | exact P7 | exact P8 | exact P9 | exact P10 | exact P11 | exact P12 | exact P13 | exact P14 | exact P15 | exact P16 | exact P17 | exact P18 | exact P19 | exact P20 | exact P21 | exact P22 | exact P23)) | (apply Part.flat; simp only [List.cons_append, List.nil_append]) | (apply Part.cons; (first | exact P0 | exact P1 | exact P2 | exact P3 | exact P4 | exact P5 | exact P6 | exact P7 | exact P8 | exact P9 | exact P10 | exact P11 | exact P12 | exact P13 | exact P14 | exact P15 | exact P16 | exact P17 | exact P18 | exact P19 | exact P20 | exact P21 | exact P22 | exact P23)) | (apply Part.nilc))) ?_)
    rintro v post H' ⟨rfl, rfl⟩ hH
    try simp only [List.cons_append, List.nil_append] at hH
    subst hH
    refine SPL_y (y_assign rfl) rfl ?_
    refine SPL_nil ?_
    refine thenP_n ?_
    refine SP_seq ?_
    refine SP_seq ?_
    refine SP_region ?_
    refine SPL_y (y_move rfl) rfl ?_
    refine SPL_if (y_lss rfl rfl) rfl ?_ ?_
    · intro h8_1
      refine SPL_nil ?_
      refine thenP_n ?_
      refine SP_cond_t rfl ?_
      refine SP_seq ?_
      refine SP_region ?_
      refine SPL_y (y_build B42 rfl rfl (by simp only [fillL, List.foldl_cons, List.foldl_nil, List.set_cons_zero, List.set_cons_succ]; exact rfl)) rfl ?_
      refine SPL_one rfl (SP1_storeAll Tryz.sizeOf42 rfl rfl rfl rfl rfl (by first | exact U0 | exact U1 | exact U2 | exact U3 | exact U4 | exact U5 | exact U6 | exact U7 | exact U8 | exact U9 | exact U10 | exact U11 | exact U12 | exact U13 | exact U14 | exact U15 | exact U16 | exact U17 | exact U18 | exact U19 | exact U20 | exact U21 | exact U22 | exact U23) (by rfl) ?_)
      refine SPL_y (y_assign rfl) rfl ?_
      refine SPL_nil ?_
      refine thenP_n ?_
      refine SP_ret ?_
      refine thenP_ret (bodyP_ret (H' := [List.flatten [blk b 103 [.pointer (some ⟨nb, 0, none⟩), .slice (some ⟨tb, 0, none⟩) tl tc, I ts.length], blk tb 245 (c0 ++ [.slice oa (ts[j].order.length) oc, .slice aa (ts[j].arr.length) ac, .map (some mn), .map (some ms), .map (some mr), I (ts[j].dead)] ++ c2), s0, List.flatten [so, sa, sn, ss, sr], s2]]) (ResCT rfl rfl rfl Tryz.isAgg42 Tryz.sizeOf42 rfl (by repeat (first | exact Cells.all _ | exact Cells.head rfl | apply Cells.tail))) (by repeat (first | exact Part.nil _ | (apply Part.cons; with_reducible (first | exact P0 | exact P1 | exact P2 | exact P3 | exact P4 | exact P5 | exact P6 | exact P7 | exact P8 | exact P9 | exact P10 | exact P11 | exact P12 | exact P13 | exact P14 | exact P15 | exact P16 | exact P17 | exact P18 | exact P19 | exact P20 | exact P21 | exact P22 | exact P23)) | (apply Part.flat; simp only [List.cons_append, List.nil_append]) | (apply Part.cons; (first | exact P0 | exact P1 | exact P2 | exact P3 | exact P4 | exact P5 | exact P6 | exact P7 | exact P8 | exact P9 | exact P10 | exact P11 | exact P12 | exact P13 | exact P14 | exact P15 | exact P16 | exact P17 | exact P18 | exact P19 | exact P20 | exact P21 | exact P22 | exact P23)) | (apply Part.nilc))) ?_)
      rw [if_pos h8_1] at h
      cases h
      exact ⟨rfl, _, hts0, rfl⟩
    intro h8_1
    refine SPL_nil ?_
    refine thenP_n ?_
    refine SP_cond_f rfl ?_
    refine SP_skip ?_
    refine thenP_n ?_
    refine SP_seq ?_
    refine SP_region ?_
    rw [if_neg h8_1] at h
    have hpl : ts[j].find k2 i < ts[j].order.length := Decidable.byContradiction fun q => by rw [if_neg q] at h; cases h
    rw [if_pos hpl] at h
    obtain ⟨p, hp⟩ : ∃ p : Nat, ts[j].find k2 i = p := ⟨(ts[j].find k2 i).toNat, by omega⟩
    rw [hp] at hpl h ⊢
    have hp2 : p < ts[j].order.length := by omega
    rw [Int.toNat_natCast, List.getD_eq_getElem?_getD, List.getElem?_eq_getElem hp2] at h
    have hre : r = ts[j].order[p].2 ∧ e = 0 := by simpa [eq_comm] using h
    obtain ⟨rfl, rfl⟩ := hre
    obtain ⟨ob, osp, rfl, hoc, hosp, rfl⟩ := ho.row (by omega)
    refine SPL_y (y_move rfl) rfl ?_
    refine SPL_y (y_nil rfl) rfl ?_
    refine SPL_y (y_fa fld_245_0 rfl) rfl ?_
    refine SPL_y (y_load Tryz.isAgg240 rfl (by repeat (first | exact Cell.amid hpre rfl | exact Cell.head rfl | apply Cell.tail))) rfl ?_
    refine SPL_y (y_move rfl) rfl ?_
    refine SPL_y (y_ia Tryz.underlying240 Tryz.sizeOf257 rfl rfl (by omega)) rfl ?_
    refine SPL_y (y_fa fld_257_1 rfl) rfl ?_
    refine SPL_y (y_loads Tryz.isAgg42 Tryz.sizeOf42 rfl rfl (by repeat (first | exact flat_cellsQ (vs := valV ts[j].order[p].2) entV_len rfl hp2 rfl | apply Cells.tail))) rfl ?_
    refine SPL_one rfl (SP1_storeAll Tryz.sizeOf42 rfl rfl rfl rfl rfl (by first | exact U0 | exact U1 | exact U2 | exact U3 | exact U4 | exact U5 | exact U6 | exact U7 | exact U8 | exact U9 | exact U10 | exact U11 | exact U12 | exact U13 | exact U14 | exact U15 | exact U16 | exact U17 | exact U18 | exact U19 | exact U20 | exact U21 | exact U22 | exact U23) (by rfl) ?_)
    refine SPL_y (y_assign rfl) rfl ?_
    refine SPL_nil ?_
    refine thenP_n ?_
    refine SP_ret ?_
    refine bodyP_ret (H' := [List.flatten [blk b 103 [.pointer (some ⟨nb, 0, none⟩), .slice (some ⟨tb, 0, none⟩) tl tc, I ts.length], blk tb 245 (c0 ++ [.slice (some ⟨ob, 0, none⟩) (ts[j].order.length) oc, .slice aa (ts[j].arr.length) ac, .map (some mn), .map (some ms), .map (some mr), I (ts[j].dead)] ++ c2), s0, List.flatten [blk ob 257 (ts[j].order.flatMap entV ++ osp), sa, sn, ss, sr], s2]]) (ResCT rfl rfl rfl Tryz.isAgg42 Tryz.sizeOf42 rfl (by repeat (first | exact Cells.all _ | exact Cells.head rfl | apply Cells.tail))) (by repeat (first | exact Part.nil _ | (apply Part.cons; with_reducible (first | exact P0 | exact P1 | exact P2 | exact P3 | exact P4 | exact P5 | exact P6 | exact P7 | exact P8 | exact P9 | exact P10 | exact P11 | exact P12 | exact P13 | exact P14 | exact P15 | exact P16 | exact P17 | exact P18 | exact P19 | exact P20 | exact P21 | exact P22 | exact P23)) | (apply Part.flat; simp only [List.cons_append, List.nil_append]) | (apply Part.cons; (first | exact P0 | exact P1 | exact P2 | exact P3 | exact P4 | exact P5 | exact P6 | exact P7 | exact P8 | exact P9 | exact P10 | exact P11 | exact P12 | exact P13 | exact P14 | exact P15 | exact P16 | exact P17 | exact P18 | exact P19 | exact P20 | exact P21 | exact P22 | exact P23)) | (apply Part.nilc))) ?_
    exact ⟨rfl, _, hts0, rfl⟩

set_option maxHeartbeats 1000000 in
theorem tabs_Set (b nb : Nat) (ts : List Tb) (s : Seg) (hts : isTabs b nb ts s) (hl : ts.length ≤ 1000) (j : Nat) (hj : j < ts.length) (k v : V) (hkn : 0 ≤ k.n) (ts2 : List Tb) (e : Int) (h : setM ts j k v = some (ts2, e)) : Spec Tryz.prog 80 [.pointer (some ⟨b, 0, none⟩), I j, .agg (valV k).toArray, .agg (valV v).toArray] [s] (Ret fun v H => v = I e ∧ ∃ s', isTabs b nb ts2 s' ∧ H = [s']) := by
  have hts0 := hts
  obtain ⟨tb, tl, tc, c0, ci, c2, s0, si, s2, rfl, hpre, hjl, hR, hput⟩ := isTabs_open hts hj
  obtain ⟨oa, oc, aa, ac, mn, ms, mr, so, sa, sn, ss, sr, rfl, rfl, ho, ha, hn, hs, hr⟩ := hR
  refine Spec_openAt [blk b 103 [.pointer (some ⟨nb, 0, none⟩), .slice (some ⟨tb, 0, none⟩) tl tc, I ts.length], blk tb 245 (c0 ++ [.slice oa (ts[j].order.length) oc, .slice aa (ts[j].arr.length) ac, .map (some mn), .map (some ms), .map (some mr), I (ts[j].dead)] ++ c2), s0, List.flatten [so, sa, sn, ss, sr], s2] (by first | exact P0 | exact P1 | exact P2 | exact P3 | exact P4 | exact P5 | exact P6 | exact P7 | exact P8 | exact P9 | exact P10 | exact P11 | exact P12 | exact P13 | exact P14 | exact P15 | exact P16 | exact P17 | exact P18 | exact P19 | exact P20 | exact P21 | exact P22 | exact P23) ?_
  simp only [List.cons_append, List.nil_append]
  refine Spec_openAt [so, sa, sn, ss, sr] (by first | exact P0 | exact P1 | exact P2 | exact P3 | exact P4 | exact P5 | exact P6 | exact P7 | exact P8 | exact P9 | exact P10 | exact P11 | exact P12 | exact P13 | exact P14 | exact P15 | exact P16 | exact P17 | exact P18 | exact P19 | exact P20 | exact P21 | exact P22 | exact P23) ?_
  simp only [List.cons_append, List.nil_append]
  obtain ⟨kt, kn, ks⟩ := k
  obtain ⟨vt, vn, vs⟩ := v
  obtain ⟨km, rfl⟩ : ∃ m : Nat, kn = m := ⟨kn.toNat, by dsimp only at hkn; omega⟩
  dsimp only [valV]
  unfold setM at h
  rw [if_neg (by omega)] at h
  have hgd : ts.getD ((j : Nat) : Int).toNat Tb.empty = ts[j] := by rw [Int.toNat_natCast, List.getD_eq_getElem?_getD, List.getElem?_eq_getElem hj]; rfl
  rw [hgd] at h
  dsimp only at h
  rw [Int.toNat_natCast, Int.toNat_natCast] at h
  refine Spec_enter Tryz.func80 rfl Tryz.ntmps80 rfl ?_
  show SP _ _ _ _ _ [(0, _), (1, _), (2, _), (3, _)] _
  refine SP_seq ?_
  refine SP_region ?_
  refine SPL_one rfl (SP1_box rfl rfl rfl ?_)
  intro b6
  refine SPL_one rfl (SP1_box rfl rfl rfl ?_)
  intro b7
  refine SPL_y (y_assign rfl) rfl ?_
  refine SPL_nil ?_
  refine thenP_n ?_
  refine SP_seq ?_
  refine SP_seq ?_
  refine SP_region ?_
  refine SPL_y (y_move rfl) rfl ?_
  refine SPL_if (y_lss rfl rfl) rfl ?_ ?_
  · intro h1_1
    omega
  intro h1_1
  refine SPL_y (y_move rfl) rfl ?_
  refine SPL_gy rfl rfl ?_
  refine SPL_y (y_move rfl) rfl ?_
  refine SPL_gy rfl rfl ?_
  refine SPL_y (y_move rfl) rfl ?_
  refine SPL_gy rfl rfl ?_
  refine SPL_y (y_nil rfl) rfl ?_
  refine SPL_gy rfl rfl ?_
  refine SPL_y (y_fa fld_103_2 rfl) rfl ?_
  refine SPL_gy rfl rfl ?_
  refine SPL_y (y_load Tryz.isAgg3 rfl (by repeat (first | exact Cell.amid hpre rfl | exact Cell.head rfl | apply Cell.tail))) rfl ?_
  refine SPL_gy rfl rfl ?_
  refine SPL_if (y_geq rfl rfl) rfl ?_ ?_
  · intro h1_8
    omega
  intro h1_8
  refine SPL_y (y_pick_f rfl rfl) rfl ?_
  refine SPL_nil ?_
  refine thenP_n ?_
  refine SP_cond_f rfl ?_
  refine SP_skip ?_
  refine thenP_n ?_
  refine SP_seq ?_
  refine SP_region ?_
  refine SPL_y (y_loads Tryz.isAgg42 Tryz.sizeOf42 rfl rfl (by repeat (first | exact Cells.all _ | exact Cells.amid hpre rfl (by decide) | exact Cells.head rfl | apply Cells.tail))) rfl ?_
  refine SPL_one rfl (SP1_call (api_WellFormed ⟨kt, km, ks⟩) Tryz.call91 rfl rfl (by repeat (first | exact Part.nil _ | (apply Part.cons; with_reducible (first | exact P0 | exact P1 | exact P2 | exact P3 | exact P4 | exact P5 | exact P6 | exact P7 | exact P8 | exact P9 | exact P10 | exact P11 | exact P12 | exact P13 | exact P14 | exact P15 | exact P16 | exact P17 | exact P18 | exact P19 | exact P20 | exact P21 | exact P22 | exact P23)) | (apply Part.flat; simp only [List.cons_append, List.nil_append]) | (apply Part.cons; (first | exact P0 | exact P1 | exact P2 | exact P3 | exact P4 | exact P5 | exact P6 | exact P7 | exact P8 | exact P9 | exact P10 | exact P11 | exact P12 | exact P13 | exact P14 | exact P15 | exact P16 | exact P17 | exact P18 | exact P19 | exact P20 | exact P21 | exact P22 | exact P23)) | (apply Part.nilc))) ?_)
  rintro v post H' ⟨rfl, rfl⟩ hH
  try simp only [List.cons_append, List.nil_append] at hH
  subst hH
  generalize hw : well ⟨kt, (km : Int), ks⟩ = w at h ⊢
  rcases w with _ | _
  · refine SPL_y (y_assign rfl) rfl ?_
    refine SPL_nil ?_
    refine thenP_n ?_
    refine SP_seq ?_
    refine SP_region ?_
    refine SPL_y (y_loads Tryz.isAgg42 Tryz.sizeOf42 rfl rfl (by repeat (first | exact Cells.all _ | exact Cells.amid hpre rfl (by decide) | exact Cells.head rfl | apply Cells.tail))) rfl ?_
    refine SPL_one rfl (SP1_call (api_WellFormed ⟨vt, vn, vs⟩) Tryz.call91 rfl rfl (by repeat (first | exact Part.nil _ | (apply Part.cons; with_reducible (first | exact P0 | exact P1 | exact P2 | exact P3 | exact P4 | exact P5 | exact P6 | exact P7 | exact P8 | exact P9 | exact P10 | exact P11 | exact P12 | exact P13 | exact P14 | exact P15 | exact P16 | exact P17 | exact P18 | exact P19 | exact P20 | exact P21 | exact P22 | exact P23)) | (apply Part.flat; simp only [List.cons_append, List.nil_append]) | (apply Part.cons; (first | exact P0 | exact P1 | exact P2 | exact P3 | exact P4 | exact P5 | exact P6 | exact P7 | exact P8 | exact P9 | exact P10 | exact P11 | exact P12 | exact P13 | exact P14 | exact P15 | exact P16 | exact P17 | exact P18 | exact P19 | exact P20 | exact P21 | exact P22 | exact P23)) | (apply Part.nilc))) ?_)
    rintro v post H' ⟨rfl, rfl⟩ hH
    try simp only [List.cons_append, List.nil_append] at hH
    subst hH
    generalize hw2 : well ⟨vt, vn, vs⟩ = w2 at h ⊢
    rcases w2 with _ | _
    · refine SPL_y (y_assign rfl) rfl ?_
      refine SPL_nil ?_
      refine thenP_n ?_
      refine SP_seq ?_
      refine SP_seq ?_
      refine SP_region ?_
      refine SPL_y (y_move rfl) rfl ?_
      refine SPL_y (y_not_f rfl) rfl ?_
      refine SPL_y (y_move rfl) rfl ?_
      refine SPL_gn rfl rfl rfl rfl ?_
      refine SPL_gn rfl rfl rfl rfl ?_
      refine SPL_y (y_pick_t rfl rfl) rfl ?_
      refine SPL_nil ?_
      refine thenP_n ?_
      refine SP_cond_t rfl ?_
      refine SP_seq ?_
      refine SP_region ?_
      refine SPL_y (y_assign rfl) rfl ?_
      refine SPL_nil ?_
      refine thenP_n ?_
      refine SP_ret ?_
      refine thenP_ret (bodyP_ret (H' := [List.flatten [blk b 103 [.pointer (some ⟨nb, 0, none⟩), .slice (some ⟨tb, 0, none⟩) tl tc, I ts.length], blk tb 245 (c0 ++ [.slice oa (ts[j].order.length) oc, .slice aa (ts[j].arr.length) ac, .map (some mn), .map (some ms), .map (some mr), I (ts[j].dead)] ++ c2), s0, List.flatten [so, sa, sn, ss, sr], s2]]) (Res1 rfl rfl) (by repeat (first | exact Part.nil _ | (apply Part.cons; with_reducible (first | exact P0 | exact P1 | exact P2 | exact P3 | exact P4 | exact P5 | exact P6 | exact P7 | exact P8 | exact P9 | exact P10 | exact P11 | exact P12 | exact P13 | exact P14 | exact P15 | exact P16 | exact P17 | exact P18 | exact P19 | exact P20 | exact P21 | exact P22 | exact P23)) | (apply Part.flat; simp only [List.cons_append, List.nil_append]) | (apply Part.cons; (first | exact P0 | exact P1 | exact P2 | exact P3 | exact P4 | exact P5 | exact P6 | exact P7 | exact P8 | exact P9 | exact P10 | exact P11 | exact P12 | exact P13 | exact P14 | exact P15 | exact P16 | exact P17 | exact P18 | exact P19 | exact P20 | exact P21 | exact P22 | exact P23)) | (apply Part.nilc))) ?_)
      rw [if_pos (.inl rfl)] at h
      cases h
      exact ⟨rfl, _, hts0, rfl⟩
    · refine SPL_y (y_assign rfl) rfl ?_
      refine SPL_nil ?_
      refine thenP_n ?_
      refine SP_seq ?_
      refine SP_seq ?_
      refine SP_region ?_
      refine SPL_y (y_move rfl) rfl ?_
      refine SPL_y (y_not_f rfl) rfl ?_
      refine SPL_y (y_move rfl) rfl ?_
      refine SPL_gn rfl rfl rfl rfl ?_
      refine SPL_gn rfl rfl rfl rfl ?_
      refine SPL_y (y_pick_t rfl rfl) rfl ?_
      refine SPL_nil ?_
      refine thenP_n ?_
      refine SP_cond_t rfl ?_
      refine SP_seq ?_
      refine SP_region ?_
      refine SPL_y (y_assign rfl) rfl ?_
      refine SPL_nil ?_
      refine thenP_n ?_
      refine SP_ret ?_
      refine thenP_ret (bodyP_ret (H' := [List.flatten [blk b 103 [.pointer (some ⟨nb, 0, none⟩), .slice (some ⟨tb, 0, none⟩) tl tc, I ts.length], blk tb 245 (c0 ++ [.slice oa (ts[j].order.length) oc, .slice aa (ts[j].arr.length) ac, .map (some mn), .map (some ms), .map (some mr), I (ts[j].dead)] ++ c2), s0, List.flatten [so, sa, sn, ss, sr], s2]]) (Res1 rfl rfl) (by repeat (first | exact Part.nil _ | (apply Part.cons; with_reducible (first | exact P0 | exact P1 | exact P2 | exact P3 | exact P4 | exact P5 | exact P6 | exact P7 | exact P8 | exact P9 | exact P10 | exact P11 | exact P12 | exact P13 | exact P14 | exact P15 | exact P16 | exact P17 | exact P18 | exact P19 | exact P20 | exact P21 | exact P22 | exact P23)) | (apply Part.flat; simp only [List.cons_append, List.nil_append]) | (apply Part.cons; (first | exact P0 | exact P1 | exact P2 | exact P3 | exact P4 | exact P5 | exact P6 | exact P7 | exact P8 | exact P9 | exact P10 | exact P11 | exact P12 | exact P13 | exact P14 | exact P15 | exact P16 | exact P17 | exact P18 | exact P19 | exact P20 | exact P21 | exact P22 | exact P23)) | (apply Part.nilc))) ?_)
      rw [if_pos (.inl rfl)] at h
      cases h
      exact ⟨rfl, _, hts0, rfl⟩
  · refine SPL_y (y_assign rfl) rfl ?_
    refine SPL_nil ?_
    refine thenP_n ?_
    refine SP_seq ?_
    refine SP_region ?_
    refine SPL_y (y_loads Tryz.isAgg42 Tryz.sizeOf42 rfl rfl (by repeat (first | exact Cells.all _ | exact Cells.amid hpre rfl (by decide) | exact Cells.head rfl | apply Cells.tail))) rfl ?_
    refine SPL_one rfl (SP1_call (api_WellFormed ⟨vt, vn, vs⟩) Tryz.call91 rfl rfl (by repeat (first | exact Part.nil _ | (apply Part.cons; with_reducible (first | exact P0 | exact P1 | exact P2 | exact P3 | exact P4 | exact P5 | exact P6 | exact P7 | exact P8 | exact P9 | exact P10 | exact P11 | exact P12 | exact P13 | exact P14 | exact P15 | exact P16 | exact P17 | exact P18 | exact P19 | exact P20 | exact P21 | exact P22 | exact P23)) | (apply Part.flat; simp only [List.cons_append, List.nil_append]) | (apply Part.cons; (first | exact P0 | exact P1 | exact P2 | exact P3 | exact P4 | exact P5 | exact P6 | exact P7 | exact P8 | exact P9 | exact P10 | exact P11 | exact P12 | exact P13 | exact P14 | exact P15 | exact P16 | exact P17 | exact P18 | exact P19 | exact P20 | exact P21 | exact P22 | exact P23)) | (apply Part.nilc))) ?_)
    rintro v post H' ⟨rfl, rfl⟩ hH
    try simp only [List.cons_append, List.nil_append] at hH
    subst hH
    generalize hw2 : well ⟨vt, vn, vs⟩ = w2 at h ⊢
    rcases w2 with _ | _
    · refine SPL_y (y_assign rfl) rfl ?_
      refine SPL_nil ?_
      refine thenP_n ?_
      refine SP_seq ?_
      refine SP_seq ?_
      refine SP_region ?_
      refine SPL_y (y_move rfl) rfl ?_
      refine SPL_y (y_not_t rfl) rfl ?_
      refine SPL_y (y_move rfl) rfl ?_
      refine SPL_gy rfl rfl ?_
      refine SPL_y (y_move rfl) rfl ?_
      refine SPL_gy rfl rfl ?_
      refine SPL_y (y_not_f rfl) rfl ?_
      refine SPL_y (y_pick_f rfl rfl) rfl ?_
      refine SPL_nil ?_
      refine thenP_n ?_
      refine SP_cond_t rfl ?_
      refine SP_seq ?_
      refine SP_region ?_
      refine SPL_y (y_assign rfl) rfl ?_
      refine SPL_nil ?_
      refine thenP_n ?_
      refine SP_ret ?_
      refine thenP_ret (bodyP_ret (H' := [List.flatten [blk b 103 [.pointer (some ⟨nb, 0, none⟩), .slice (some ⟨tb, 0, none⟩) tl tc, I ts.length], blk tb 245 (c0 ++ [.slice oa (ts[j].order.length) oc, .slice aa (ts[j].arr.length) ac, .map (some mn), .map (some ms), .map (some mr), I (ts[j].dead)] ++ c2), s0, List.flatten [so, sa, sn, ss, sr], s2]]) (Res1 rfl rfl) (by repeat (first | exact Part.nil _ | (apply Part.cons; with_reducible (first | exact P0 | exact P1 | exact P2 | exact P3 | exact P4 | exact P5 | exact P6 | exact P7 | exact P8 | exact P9 | exact P10 | exact P11 | exact P12 | exact P13 | exact P14 | exact P15 | exact P16 | exact P17 | exact P18 | exact P19 | exact P20 | exact P21 | exact P22 | exact P23)) | (apply Part.flat; simp only [List.cons_append, List.nil_append]) | (apply Part.cons; (first | exact P0 | exact P1 | exact P2 | exact P3 | exact P4 | exact P5 | exact P6 | exact P7 | exact P8 | exact P9 | exact P10 | exact P11 | exact P12 | exact P13 | exact P14 | exact P15 | exact P16 | exact P17 | exact P18 | exact P19 | exact P20 | exact P21 | exact P22 | exact P23)) | (apply Part.nilc))) ?_)
      rw [if_pos (.inr rfl)] at h
      cases h
      exact ⟨rfl, _, hts0, rfl⟩
    · refine SPL_y (y_assign rfl) rfl ?_
      refine SPL_nil ?_
      refine thenP_n ?_
      refine SP_seq ?_
      refine SP_seq ?_
      refine SP_region ?_
      refine SPL_y (y_move rfl) rfl ?_
      refine SPL_y (y_not_t rfl) rfl ?_
      refine SPL_y (y_move rfl) rfl ?_
      refine SPL_gy rfl rfl ?_
      refine SPL_y (y_move rfl) rfl ?_
      refine SPL_gy rfl rfl ?_
      refine SPL_y (y_not_t rfl) rfl ?_
      refine SPL_y (y_pick_f rfl rfl) rfl ?_
      refine SPL_nil ?_
      refine thenP_n ?_
      refine SP_cond_f rfl ?_
      refine SP_skip ?_
      refine thenP_n ?_
      refine SP_seq ?_
      refine SP_seq ?_
      refine SP_region ?_
      refine SPL_y (y_fa fld_42_0 rfl) rfl ?_
      refine SPL_y (y_load Tryz.isAgg3 rfl (by repeat (first | exact Cell.amid hpre rfl | exact Cell.head rfl | apply Cell.tail))) rfl ?_
      refine SPL_if (y_eql rfl rfl) rfl ?_ ?_
      · intro h7_2
        refine SPL_nil ?_
        refine thenP_n ?_
        refine SP_cond_t rfl ?_
        refine SP_seq ?_
        refine SP_region ?_
        refine SPL_y (y_assign rfl) rfl ?_
        refine SPL_nil ?_
        refine thenP_n ?_
        refine SP_ret ?_
        refine thenP_ret (bodyP_ret (H' := [List.flatten [blk b 103 [.pointer (some ⟨nb, 0, none⟩), .slice (some ⟨tb, 0, none⟩) tl tc, I ts.length], blk tb 245 (c0 ++ [.slice oa (ts[j].order.length) oc, .slice aa (ts[j].arr.length) ac, .map (some mn), .map (some ms), .map (some mr), I (ts[j].dead)] ++ c2), s0, List.flatten [so, sa, sn, ss, sr], s2]]) (Res1 rfl rfl) (by repeat (first | exact Part.nil _ | (apply Part.cons; with_reducible (first | exact P0 | exact P1 | exact P2 | exact P3 | exact P4 | exact P5 | exact P6 | exact P7 | exact P8 | exact P9 | exact P10 | exact P11 | exact P12 | exact P13 | exact P14 | exact P15 | exact P16 | exact P17 | exact P18 | exact P19 | exact P20 | exact P21 | exact P22 | exact P23)) | (apply Part.flat; simp only [List.cons_append, List.nil_append]) | (apply Part.cons; (first | exact P0 | exact P1 | exact P2 | exact P3 | exact P4 | exact P5 | exact P6 | exact P7 | exact P8 | exact P9 | exact P10 | exact P11 | exact P12 | exact P13 | exact P14 | exact P15 | exact P16 | exact P17 | exact P18 | exact P19 | exact P20 | exact P21 | exact P22 | exact P23)) | (apply Part.nilc))) ?_)
        rw [if_neg (by decide), if_pos h7_2] at h
        cases h
        exact ⟨rfl, _, hts0, rfl⟩
      intro h7_2
      refine SPL_nil ?_
      refine thenP_n ?_
      refine SP_cond_f rfl ?_
      refine SP_skip ?_
      refine thenP_n ?_
      refine SP_seq ?_
      refine SP_seq ?_
      refine SP_draw 12 [(0, 0), (1, 1), (2, 0), (3, 0), (4, 0), (5, 0), (6, 0), (8, 0), (10, 0), (7, 1), (9, 1), (11, 1), (12, 3), (13, 0)] mixed (by kernel_rfl) (fun _ _ _ _ _ h => h) (Part.refl _) ?_
      refine SPO_p rfl (y_fa fld_42_0 rfl) rfl ?_
      refine SPO_h rfl (y_load Tryz.isAgg3 rfl (by repeat (first | exact Cell.amid hpre rfl | exact Cell.head rfl | apply Cell.tail))) rfl ?_
      refine SPO_ifn rfl (y_eql rfl rfl) rfl ?_ ?_
      · intro h9_2
        refine SPO_p rfl (y_move rfl) rfl ?_
        refine SPO_gn (.inl rfl) rfl rfl rfl rfl rfl ?_
        refine SPO_gn (.inl rfl) rfl rfl rfl rfl rfl ?_
        refine SPO_gn (.inl rfl) rfl rfl rfl rfl rfl ?_
        refine SPO_gn (.inl rfl) rfl rfl rfl rfl rfl ?_
        refine SPO_gn (.inl rfl) rfl rfl rfl rfl rfl ?_
        refine SPO_gn (.inr rfl) rfl rfl rfl rfl rfl ?_
        refine SPO_gn (.inr rfl) rfl rfl rfl rfl rfl ?_
        refine SPO_gn (.inr rfl) rfl rfl rfl rfl rfl ?_
        refine SPO_zn (k := 0) rfl rfl rfl rfl rfl ?_
        refine SPO_p rfl (y_pick_f rfl rfl) rfl ?_
        refine SPO_nil ?_
        refine thenP_n ?_
        refine SP_cond_f rfl ?_
        refine SP_skip ?_
        refine thenP_n ?_
        refine SP_seq ?_
        refine SP_region ?_
        rw [if_neg (by decide), if_neg h7_2, if_neg (fun q => h9_2 q.1)] at h
        obtain ⟨k2, i, hone⟩ : ∃ k2 i, oneV ⟨kt, (km : Int), ks⟩ = some (k2, i) := by
          cases hq : oneV ⟨kt, (km : Int), ks⟩ with
          | none => rw [hq] at h; cases h
          | some r => exact ⟨r.1, r.2, rfl⟩
        rw [hone] at h
        dsimp only at h
        have hir : -9223372036854775808 ≤ i ∧ i ≤ 9223372036854775807 := Decidable.byContradiction fun q => by rw [if_neg q] at h; cases h
        rw [if_pos hir] at h
        obtain ⟨⟨t9, e9⟩, h9, hq9⟩ := Option.map_eq_some_iff.1 h
        cases hq9
        clear h
        rename _ => h
        unfold setT at h
        dsimp only at h
        obtain ⟨k2t, k2n, k2s⟩ := k2
        refine SPL_y (y_move rfl) rfl ?_
        refine SPL_y (y_nil rfl) rfl ?_
        refine SPL_y (y_fa fld_103_1 rfl) rfl ?_
        refine SPL_y (y_load Tryz.isAgg101 rfl (by repeat (first | exact Cell.amid hpre rfl | exact Cell.head rfl | apply Cell.tail))) rfl ?_
        refine SPL_y (y_move rfl) rfl ?_
        refine SPL_y (y_ia Tryz.underlying101 Tryz.sizeOf245 rfl rfl (by omega)) rfl ?_
        refine SPL_y (y_assign rfl) rfl ?_
        refine SPL_nil ?_
        refine thenP_n ?_
        refine SP_seq ?_
        refine SP_region ?_
        refine SPL_y (y_move rfl) rfl ?_
        refine SPL_y (y_loads Tryz.isAgg42 Tryz.sizeOf42 rfl rfl (by repeat (first | exact Cells.all _ | exact Cells.amid hpre rfl (by decide) | exact Cells.head rfl | apply Cells.tail))) rfl ?_
        refine SPL_one rfl (SP1_call (tab_one b _ _ _ ⟨kt, km, ks⟩ hkn ⟨k2t, k2n, k2s⟩ i hone) Tryz.call134 rfl rfl (by repeat (first | exact Part.nil _ | (apply Part.cons; with_reducible (first | exact P0 | exact P1 | exact P2 | exact P3 | exact P4 | exact P5 | exact P6 | exact P7 | exact P8 | exact P9 | exact P10 | exact P11 | exact P12 | exact P13 | exact P14 | exact P15 | exact P16 | exact P17 | exact P18 | exact P19 | exact P20 | exact P21 | exact P22 | exact P23)) | (apply Part.flat; simp only [List.cons_append, List.nil_append]) | (apply Part.cons; (first | exact P0 | exact P1 | exact P2 | exact P3 | exact P4 | exact P5 | exact P6 | exact P7 | exact P8 | exact P9 | exact P10 | exact P11 | exact P12 | exact P13 | exact P14 | exact P15 | exact P16 | exact P17 | exact P18 | exact P19 | exact P20 | exact P21 | exact P22 | exact P23)) | (apply Part.nilc))) ?_)
        rintro v post H' ⟨rfl, rfl⟩ hH
        try simp only [List.cons_append, List.nil_append] at hH
        subst hH
        refine SPL_y (y_move rfl) rfl ?_
        refine SPL_y (y_ext rfl rfl) rfl ?_
        refine SPL_y (y_ext rfl rfl) rfl ?_
        refine SPL_one rfl (SP1_storeAll Tryz.sizeOf42 rfl rfl rfl rfl rfl (by first | exact U0 | exact U1 | exact U2 | exact U3 | exact U4 | exact U5 | exact U6 | exact U7 | exact U8 | exact U9 | exact U10 | exact U11 | exact U12 | exact U13 | exact U14 | exact U15 | exact U16 | exact U17 | exact U18 | exact U19 | exact U20 | exact U21 | exact U22 | exact U23) (by rfl) ?_)
        refine SPL_y (y_assign rfl) rfl ?_
        refine SPL_nil ?_
        refine thenP_n ?_
        refine SP_seq ?_
        refine SP_seq ?_
        refine SP_region ?_
        refine SPL_y (y_move rfl) rfl ?_
        refine SPL_y (y_loads Tryz.isAgg42 Tryz.sizeOf42 rfl rfl (by repeat (first | exact Cells.all _ | exact Cells.amid hpre rfl (by decide) | exact Cells.head rfl | apply Cells.tail))) rfl ?_
        refine SPL_y (y_move rfl) rfl ?_
        refine SPL_one rfl (SP1_call (tab_find tb (0 + ((j : Nat) : Int).toNat * 6) c0 c2 hpre ts[j] oa aa oc ac mn ms mr so sa sn ss sr ho ha hn hs hr ⟨k2t, k2n, k2s⟩ i hir) Tryz.call135 rfl rfl (by repeat (first | exact Part.nil _ | (apply Part.cons; with_reducible (first | exact P0 | exact P1 | exact P2 | exact P3 | exact P4 | exact P5 | exact P6 | exact P7 | exact P8 | exact P9 | exact P10 | exact P11 | exact P12 | exact P13 | exact P14 | exact P15 | exact P16 | exact P17 | exact P18 | exact P19 | exact P20 | exact P21 | exact P22 | exact P23)) | (apply Part.flat; simp only [List.cons_append, List.nil_append]) | (apply Part.cons; (first | exact P0 | exact P1 | exact P2 | exact P3 | exact P4 | exact P5 | exact P6 | exact P7 | exact P8 | exact P9 | exact P10 | exact P11 | exact P12 | exact P13 | exact P14 | exact P15 | exact P16 | exact P17 | exact P18 | exact P19 | exact P20 | exact P21 | exact P22 | exact P23)) | (apply Part.nilc))) ?_)
        rintro v post H' ⟨rfl, rfl⟩ hH
        try simp only [List.cons_append, List.nil_append] at hH
        subst hH
        refine SPL_y (y_assign rfl) rfl ?_
        refine SPL_nil ?_
        refine thenP_n ?_
        refine SP_seq ?_
        refine SP_region ?_
        refine SPL_y (y_move rfl) rfl ?_
        refine SPL_if (y_geq rfl rfl) rfl ?_ ?_
        · intro h14_1
          refine SPL_nil ?_
          refine thenP_n ?_
          refine SP_cond_t rfl ?_
          refine SP_seq ?_
          refine SP_region ?_
          rw [if_pos h14_1] at h
          have hpb : ts[j].find ⟨k2t, k2n, k2s⟩ i < ts[j].order.length ∧ ts[j].order.length ≤ 1000 ∧ -1000000 ≤ ts[j].dead ∧ ts[j].dead ≤ 1000000 := Decidable.byContradiction fun q => by rw [if_neg q] at h; cases h
          rw [if_pos hpb] at h
          obtain ⟨p, hp⟩ : ∃ p : Nat, ts[j].find ⟨k2t, k2n, k2s⟩ i = p := ⟨(ts[j].find ⟨k2t, k2n, k2s⟩ i).toNat, by omega⟩
          rw [hp] at hpb h ⊢
          have hp2 : p < ts[j].order.length := by omega
          rw [Int.toNat_natCast] at h
          cases h
          refine SPL_y (y_move rfl) rfl ?_
          refine SPL_y (y_move rfl) rfl ?_
          refine SPL_y (y_loads Tryz.isAgg42 Tryz.sizeOf42 rfl rfl (by repeat (first | exact Cells.all _ | exact Cells.amid hpre rfl (by decide) | exact Cells.head rfl | apply Cells.tail))) rfl ?_
          refine SPL_one rfl (SP1_call (tab_turn tb (0 + ((j : Nat) : Int).toNat * 6) c0 c2 hpre ts[j] oa aa oc ac mn ms mr so sa sn ss sr ho ha hn hs hr p hp2 hpb.2.1 ⟨vt, vn, vs⟩ hpb.2.2) Tryz.call136 rfl rfl (by repeat (first | exact Part.nil _ | (apply Part.cons; with_reducible (first | exact P0 | exact P1 | exact P2 | exact P3 | exact P4 | exact P5 | exact P6 | exact P7 | exact P8 | exact P9 | exact P10 | exact P11 | exact P12 | exact P13 | exact P14 | exact P15 | exact P16 | exact P17 | exact P18 | exact P19 | exact P20 | exact P21 | exact P22 | exact P23)) | (apply Part.flat; simp only [List.cons_append, List.nil_append]) | (apply Part.cons; (first | exact P0 | exact P1 | exact P2 | exact P3 | exact P4 | exact P5 | exact P6 | exact P7 | exact P8 | exact P9 | exact P10 | exact P11 | exact P12 | exact P13 | exact P14 | exact P15 | exact P16 | exact P17 | exact P18 | exact P19 | exact P20 | exact P21 | exact P22 | exact P23)) | (apply Part.nilc))) ?_)
          rintro v post H' ⟨rfl, so', ho', rfl⟩ hH
          try simp only [List.cons_append, List.nil_append] at hH
          subst hH
          refine SPL_nil ?_
          refine thenP_n ?_
          refine SP_seq ?_
          refine SP_region ?_
          refine SPL_y (y_assign rfl) rfl ?_
          refine SPL_nil ?_
          refine thenP_n ?_
          refine SP_ret ?_
          refine thenP_ret (bodyP_ret (H' := [List.flatten [blk b 103 [.pointer (some ⟨nb, 0, none⟩), .slice (some ⟨tb, 0, none⟩) tl tc, I ts.length], blk tb 245 (c0 ++ [.slice oa (ts[j].order.length) oc, .slice aa (ts[j].arr.length) ac, .map (some mn), .map (some ms), .map (some mr), I ((ts[j].turn p ⟨vt, vn, vs⟩).dead)] ++ c2), s0, List.flatten [so', sa, sn, ss, sr], s2]]) (Res1 rfl rfl) (by repeat (first | exact Part.nil _ | (apply Part.cons; with_reducible (first | exact P0 | exact P1 | exact P2 | exact P3 | exact P4 | exact P5 | exact P6 | exact P7 | exact P8 | exact P9 | exact P10 | exact P11 | exact P12 | exact P13 | exact P14 | exact P15 | exact P16 | exact P17 | exact P18 | exact P19 | exact P20 | exact P21 | exact P22 | exact P23)) | (apply Part.flat; simp only [List.cons_append, List.nil_append]) | (apply Part.cons; (first | exact P0 | exact P1 | exact P2 | exact P3 | exact P4 | exact P5 | exact P6 | exact P7 | exact P8 | exact P9 | exact P10 | exact P11 | exact P12 | exact P13 | exact P14 | exact P15 | exact P16 | exact P17 | exact P18 | exact P19 | exact P20 | exact P21 | exact P22 | exact P23)) | (apply Part.nilc))) ?_)
          exact ⟨rfl, _, hput _ _ _ (tabR_mk (turn_len _ _ _) rfl rfl ho' ha hn hs hr), rfl⟩
        intro h14_1
        refine SPL_nil ?_
        refine thenP_n ?_
        refine SP_cond_f rfl ?_
        refine SP_skip ?_
        refine thenP_n ?_
        refine SP_seq ?_
        refine SP_seq ?_
        rw [if_neg h14_1] at h
        refine SP_region ?_
        refine SPL_y (y_loads Tryz.isAgg42 Tryz.sizeOf42 rfl rfl (by repeat (first | exact Cells.all _ | exact Cells.amid hpre rfl (by decide) | exact Cells.head rfl | apply Cells.tail))) rfl ?_
        refine SPL_one rfl (SP1_call (tab_isNil ⟨vt, vn, vs⟩) Tryz.call137 rfl rfl (by repeat (first | exact Part.nil _ | (apply Part.cons; with_reducible (first | exact P0 | exact P1 | exact P2 | exact P3 | exact P4 | exact P5 | exact P6 | exact P7 | exact P8 | exact P9 | exact P10 | exact P11 | exact P12 | exact P13 | exact P14 | exact P15 | exact P16 | exact P17 | exact P18 | exact P19 | exact P20 | exact P21 | exact P22 | exact P23)) | (apply Part.flat; simp only [List.cons_append, List.nil_append]) | (apply Part.cons; (first | exact P0 | exact P1 | exact P2 | exact P3 | exact P4 | exact P5 | exact P6 | exact P7 | exact P8 | exact P9 | exact P10 | exact P11 | exact P12 | exact P13 | exact P14 | exact P15 | exact P16 | exact P17 | exact P18 | exact P19 | exact P20 | exact P21 | exact P22 | exact P23)) | (apply Part.nilc))) ?_)
        rintro v post H' ⟨rfl, rfl⟩ hH
        try simp only [List.cons_append, List.nil_append] at hH
        subst hH
        generalize hnl : isNilV ⟨vt, vn, vs⟩ = nl at h ⊢
        rcases nl with _ | _
        · refine SPL_nil ?_
          refine thenP_n ?_
          refine SP_cond_f rfl ?_
          refine SP_skip ?_
          refine thenP_n ?_
          refine SP_seq ?_
          refine SP_seq ?_
          rw [if_neg (by decide)] at h
          refine SP_region ?_
          refine SPL_y (y_move rfl) rfl ?_
          refine SPL_y (y_nil rfl) rfl ?_
          refine SPL_y (y_fa fld_245_0 rfl) rfl ?_
          refine SPL_y (y_load Tryz.isAgg240 rfl (by repeat (first | exact Cell.amid hpre rfl | exact Cell.head rfl | apply Cell.tail))) rfl ?_
          refine SPL_y (y_len_l Tryz.underlying240 rfl) rfl ?_
          refine SPL_if (y_geq rfl rfl) rfl ?_ ?_
          · intro h19_5
            refine SPL_nil ?_
            refine thenP_n ?_
            refine SP_cond_t rfl ?_
            refine SP_seq ?_
            refine SP_region ?_
            refine SPL_y (y_assign rfl) rfl ?_
            refine SPL_nil ?_
            refine thenP_n ?_
            refine SP_ret ?_
            refine thenP_ret (bodyP_ret (H' := [List.flatten [blk b 103 [.pointer (some ⟨nb, 0, none⟩), .slice (some ⟨tb, 0, none⟩) tl tc, I ts.length], blk tb 245 (c0 ++ [.slice oa (ts[j].order.length) oc, .slice aa (ts[j].arr.length) ac, .map (some mn), .map (some ms), .map (some mr), I (ts[j].dead)] ++ c2), s0, List.flatten [so, sa, sn, ss, sr], s2]]) (Res1 rfl rfl) (by repeat (first | exact Part.nil _ | (apply Part.cons; with_reducible (first | exact P0 | exact P1 | exact P2 | exact P3 | exact P4 | exact P5 | exact P6 | exact P7 | exact P8 | exact P9 | exact P10 | exact P11 | exact P12 | exact P13 | exact P14 | exact P15 | exact P16 | exact P17 | exact P18 | exact P19 | exact P20 | exact P21 | exact P22 | exact P23)) | (apply Part.flat; simp only [List.cons_append, List.nil_append]) | (apply Part.cons; (first | exact P0 | exact P1 | exact P2 | exact P3 | exact P4 | exact P5 | exact P6 | exact P7 | exact P8 | exact P9 | exact P10 | exact P11 | exact P12 | exact P13 | exact P14 | exact P15 | exact P16 | exact P17 | exact P18 | exact P19 | exact P20 | exact P21 | exact P22 | exact P23)) | (apply Part.nilc))) ?_)
            rw [if_pos (by omega)] at h
            cases h
            exact ⟨rfl, _, hput _ _ _ (tabR_mk rfl rfl rfl ho ha hn hs hr), rfl⟩
          intro h19_5
          refine SPL_nil ?_
          refine thenP_n ?_
          refine SP_cond_f rfl ?_
          refine SP_skip ?_
          refine thenP_n ?_
          refine SP_seq ?_
          rw [if_neg (by omega)] at h
          have har : ts[j].arr.length < 1000 := Decidable.byContradiction fun q => by rw [if_pos (by omega)] at h; cases h
          rw [if_neg (by omega)] at h
          refine SP_draw 9 [(0, 0), (1, 0), (2, 0), (3, 0), (4, 1), (5, 1), (6, 1), (7, 0), (8, 2), (9, 3), (10, 0), (11, 0), (12, 3)] mixed (by kernel_rfl) (fun _ _ _ _ _ h => h) (Part.refl _) ?_
          refine SPO_p rfl (y_move rfl) rfl ?_
          refine SPO_p rfl (y_move rfl) rfl ?_
          refine SPO_p rfl (y_nil rfl) rfl ?_
          refine SPO_p rfl (y_fa fld_245_0 rfl) rfl ?_
          refine SPO_h rfl (y_load Tryz.isAgg240 rfl (by repeat (first | exact Cell.amid hpre rfl | exact Cell.head rfl | apply Cell.tail))) rfl ?_
          refine SPO_h rfl (y_loads Tryz.isAgg42 Tryz.sizeOf42 rfl rfl (by repeat (first | exact Cells.all _ | exact Cells.amid hpre rfl (by decide) | exact Cells.head rfl | apply Cells.tail))) rfl ?_
          refine SPO_h rfl (y_loads Tryz.isAgg42 Tryz.sizeOf42 rfl rfl (by repeat (first | exact Cells.all _ | exact Cells.amid hpre rfl (by decide) | exact Cells.head rfl | apply Cells.tail))) rfl ?_
          refine SPO_p rfl (y_buildN (l := entV (⟨k2t, k2n, k2s⟩, ⟨vt, vn, vs⟩)) BN257 rfl (fill_ent ⟨k2t, k2n, k2s⟩ ⟨vt, vn, vs⟩)) rfl ?_
          refine SPO_a rfl rfl (SP1_slice1 el_240 rfl rfl rfl rfl rfl ?_)
          intro b90
          refine ⟨⟨_, (by repeat (first | exact Part.nil _ | (apply Part.cons; with_reducible (first | exact P0 | exact P1 | exact P2 | exact P3 | exact P4 | exact P5 | exact P6 | exact P7 | exact P8 | exact P9 | exact P10 | exact P11 | exact P12 | exact P13 | exact P14 | exact P15 | exact P16 | exact P17 | exact P18 | exact P19 | exact P20 | exact P21 | exact P22 | exact P23)) | (apply Part.flat; simp only [List.cons_append, List.nil_append]) | (apply Part.cons; (first | exact P0 | exact P1 | exact P2 | exact P3 | exact P4 | exact P5 | exact P6 | exact P7 | exact P8 | exact P9 | exact P10 | exact P11 | exact P12 | exact P13 | exact P14 | exact P15 | exact P16 | exact P17 | exact P18 | exact P19 | exact P20 | exact P21 | exact P22 | exact P23)) | (apply Part.nilc)))⟩, ?_⟩
          refine SPO_z (k := 0) rfl rfl (SP1_append el_240 (.inl Tryz.underlying240) rfl rfl ho (by first | exact P0 | exact P1 | exact P2 | exact P3 | exact P4 | exact P5 | exact P6 | exact P7 | exact P8 | exact P9 | exact P10 | exact P11 | exact P12 | exact P13 | exact P14 | exact P15 | exact P16 | exact P17 | exact P18 | exact P19 | exact P20 | exact P21 | exact P22 | exact P23) (Src.of (by repeat (first | exact Cells.all _ | exact Cells.amid hpre rfl (by decide) | exact Cells.head rfl | apply Cells.tail)) (by rfl)) (by rfl) (by omega) rfl ?_)
          intro oa1 oc1 so1 ho1
          refine SPO_p rfl (y_nil rfl) rfl ?_
          refine SPO_p rfl (y_fa fld_245_0 rfl) rfl ?_
          refine SPO_z (k := 0) rfl rfl (SP1_storeM (j := 0) Tryz.sizeOf240 rfl rfl rfl hpre (by first | exact U0 | exact U1 | exact U2 | exact U3 | exact U4 | exact U5 | exact U6 | exact U7 | exact U8 | exact U9 | exact U10 | exact U11 | exact U12 | exact U13 | exact U14 | exact U15 | exact U16 | exact U17 | exact U18 | exact U19 | exact U20 | exact U21 | exact U22 | exact U23) (by rfl) ?_)
          simp only [List.set_cons_zero, List.set_cons_succ, List.take_succ_cons, List.take_zero, List.drop_succ_cons, List.drop_zero, List.cons_append, List.nil_append]
          refine SPO_nil ?_
          refine thenP_n ?_
          refine SP_seq ?_
          refine SP_region ?_
          refine SPL_y (y_move rfl) rfl ?_
          refine SPL_y (y_nil rfl) rfl ?_
          refine SPL_y (y_fa fld_245_0 rfl) rfl ?_
          refine SPL_y (y_load Tryz.isAgg240 rfl (by repeat (first | exact Cell.amid hpre rfl | exact Cell.head rfl | apply Cell.tail))) rfl ?_
          refine SPL_y (y_len_l Tryz.underlying240 rfl) rfl ?_
          refine SPL_y (y_sub rfl rfl (by omega)) rfl ?_
          refine SPL_y (y_conv Tryz.underlying3 Tryz.underlying21 rfl (show IntKind.i32.wrap (((ts[j].order.length + 1 : Nat) : Int) - 1) = (ts[j].order.length : Int) by rw [IntKind.wrap_i32]; omega)) rfl ?_
          refine SPL_y (y_assign rfl) rfl ?_
          refine SPL_nil ?_
          refine thenP_n ?_
          refine SP_seq ?_
          refine SP_seq ?_
          refine SP_region ?_
          refine SPL_y (y_move rfl) rfl ?_
          refine SPL_y (y_move rfl) rfl ?_
          refine SPL_y (y_nil rfl) rfl ?_
          refine SPL_y (y_fa fld_245_1 rfl) rfl ?_
          refine SPL_y (y_load Tryz.isAgg241 rfl (by repeat (first | exact Cell.amid hpre rfl | exact Cell.head rfl | apply Cell.tail))) rfl ?_
          refine SPL_y (y_len_l Tryz.underlying241 rfl) rfl ?_
          refine SPL_y (y_add rfl rfl (by omega)) rfl ?_
          refine SPL_if (y_neq rfl rfl) rfl ?_ ?_
          · intro h23_7
            refine SPL_nil ?_
            refine thenP_n ?_
            refine SP_cond_t rfl ?_
            refine SP_seq ?_
            rw [if_pos (by omega)] at h
            obtain ⟨t2, hix, hq2⟩ := Option.map_eq_some_iff.1 h
            cases hq2
            obtain ⟨t1, ht1⟩ : ∃ t1 : Tb, ({ ts[j] with order := ts[j].order ++ [(⟨k2t, k2n, k2s⟩, ⟨vt, vn, vs⟩)] } : Tb) = t1 := ⟨_, rfl⟩
            rw [ht1] at hix
            have g1 : t1.order = ts[j].order ++ [(⟨k2t, k2n, k2s⟩, ⟨vt, vn, vs⟩)] := by rw [← ht1]
            have g2 : t1.arr = ts[j].arr := by rw [← ht1]
            have g3 : t1.dead = ts[j].dead := by rw [← ht1]
            have g4 : t1.nums = ts[j].nums := by rw [← ht1]
            have g5 : t1.strs = ts[j].strs := by rw [← ht1]
            have g6 : t1.refs = ts[j].refs := by rw [← ht1]
            have gl : ts[j].order.length + 1 = t1.order.length := by rw [g1]; simp
            have ho2 : Arr 257 6 oa1 t1.order.length oc1 (t1.order.flatMap entV) so1 := by rw [g1, List.flatMap_append, List.length_append]; exact ho1
            have ha2 : Arr 21 1 aa t1.arr.length ac (t1.arr.map i32V) sa := by rw [g2]; exact ha
            clear ht1
            rw [gl, ← g2, ← g3]
            refine SP_region ?_
            refine SPL_y (y_move rfl) rfl ?_
            refine SPL_y (y_loads Tryz.isAgg42 Tryz.sizeOf42 rfl rfl (by repeat (first | exact Cells.all _ | exact Cells.amid hpre rfl (by decide) | exact Cells.head rfl | apply Cells.tail))) rfl ?_
            refine SPL_y (y_move rfl) rfl ?_
            refine SPL_one rfl (SP1_call (tab_index tb (0 + ((j : Nat) : Int).toNat * 6) c0 c2 hpre t1 oa1 aa oc1 ac mn ms mr so1 sa sn ss sr ho2 ha2 (by rw [g4]; exact hn) (by rw [g5]; exact hs) (by rw [g6]; exact hr) ⟨k2t, k2n, k2s⟩ ts[j].order.length t9 hix) Tryz.call138 rfl rfl (by repeat (first | exact Part.nil _ | (apply Part.cons; with_reducible (first | exact P0 | exact P1 | exact P2 | exact P3 | exact P4 | exact P5 | exact P6 | exact P7 | exact P8 | exact P9 | exact P10 | exact P11 | exact P12 | exact P13 | exact P14 | exact P15 | exact P16 | exact P17 | exact P18 | exact P19 | exact P20 | exact P21 | exact P22 | exact P23)) | (apply Part.flat; simp only [List.cons_append, List.nil_append]) | (apply Part.cons; (first | exact P0 | exact P1 | exact P2 | exact P3 | exact P4 | exact P5 | exact P6 | exact P7 | exact P8 | exact P9 | exact P10 | exact P11 | exact P12 | exact P13 | exact P14 | exact P15 | exact P16 | exact P17 | exact P18 | exact P19 | exact P20 | exact P21 | exact P22 | exact P23)) | (apply Part.nilc))) ?_)
            rintro v post H' ⟨rfl, sn', ss', sr', hn', hs', hr', e1, e2, e3, rfl⟩ hH
            try simp only [List.cons_append, List.nil_append] at hH
            subst hH
            refine SPL_nil ?_
            refine thenP_n ?_
            refine SP_seq ?_
            refine SP_region ?_
            refine SPL_y (y_assign rfl) rfl ?_
            refine SPL_nil ?_
            refine thenP_n ?_
            refine SP_ret ?_
            refine thenP_ret (bodyP_ret (H' := [List.flatten [blk b 103 [.pointer (some ⟨nb, 0, none⟩), .slice (some ⟨tb, 0, none⟩) tl tc, I ts.length], blk tb 245 (c0 ++ [.slice oa1 (t1.order.length) oc1, .slice aa (t1.arr.length) ac, .map (some mn), .map (some ms), .map (some mr), I (t1.dead)] ++ c2), s0, List.flatten [so1, sa, sn', ss', sr'], s2]]) (Res1 rfl rfl) (by repeat (first | exact Part.nil _ | (apply Part.cons; with_reducible (first | exact P0 | exact P1 | exact P2 | exact P3 | exact P4 | exact P5 | exact P6 | exact P7 | exact P8 | exact P9 | exact P10 | exact P11 | exact P12 | exact P13 | exact P14 | exact P15 | exact P16 | exact P17 | exact P18 | exact P19 | exact P20 | exact P21 | exact P22 | exact P23)) | (apply Part.flat; simp only [List.cons_append, List.nil_append]) | (apply Part.cons; (first | exact P0 | exact P1 | exact P2 | exact P3 | exact P4 | exact P5 | exact P6 | exact P7 | exact P8 | exact P9 | exact P10 | exact P11 | exact P12 | exact P13 | exact P14 | exact P15 | exact P16 | exact P17 | exact P18 | exact P19 | exact P20 | exact P21 | exact P22 | exact P23)) | (apply Part.nilc))) ?_)
            exact ⟨rfl, _, hput _ _ _ (tabR_mk (by rw [e1]) (by rw [e2]) (by rw [e3]) (by rw [e1]; exact ho2) (by rw [e2]; exact ha2) hn' hs' hr'), rfl⟩
          intro h23_7
          refine SPL_nil ?_
          refine thenP_n ?_
          refine SP_cond_f rfl ?_
          refine SP_skip ?_
          refine thenP_n ?_
          refine SP_seq ?_
          refine SP_region ?_
          refine SPL_y (y_move rfl) rfl ?_
          refine SPL_y (y_move rfl) rfl ?_
          refine SPL_y (y_nil rfl) rfl ?_
          refine SPL_y (y_fa fld_245_1 rfl) rfl ?_
          refine SPL_y (y_load Tryz.isAgg241 rfl (by repeat (first | exact Cell.amid hpre rfl | exact Cell.head rfl | apply Cell.tail))) rfl ?_
          refine SPL_y (y_move rfl) rfl ?_
          refine SPL_one rfl (SP1_slice1 el_241 rfl rfl rfl rfl rfl ?_)
          intro b119
          refine SPL_one rfl (SP1_append el_241 (.inl Tryz.underlying241) rfl rfl ha (by first | exact P0 | exact P1 | exact P2 | exact P3 | exact P4 | exact P5 | exact P6 | exact P7 | exact P8 | exact P9 | exact P10 | exact P11 | exact P12 | exact P13 | exact P14 | exact P15 | exact P16 | exact P17 | exact P18 | exact P19 | exact P20 | exact P21 | exact P22 | exact P23) (Src.of (by repeat (first | exact Cells.all _ | exact Cells.amid hpre rfl (by decide) | exact Cells.head rfl | apply Cells.tail)) (by rfl)) (by rfl) (by omega) rfl ?_)
          intro aa1 ac1 sa1 ha1
          refine SPL_y (y_nil rfl) rfl ?_
          refine SPL_y (y_fa fld_245_1 rfl) rfl ?_
          refine SPL_one rfl (SP1_storeM (j := 1) Tryz.sizeOf241 rfl rfl rfl hpre (by first | exact U0 | exact U1 | exact U2 | exact U3 | exact U4 | exact U5 | exact U6 | exact U7 | exact U8 | exact U9 | exact U10 | exact U11 | exact U12 | exact U13 | exact U14 | exact U15 | exact U16 | exact U17 | exact U18 | exact U19 | exact U20 | exact U21 | exact U22 | exact U23) (by rfl) ?_)
          simp only [List.set_cons_zero, List.set_cons_succ, List.take_succ_cons, List.take_zero, List.drop_succ_cons, List.drop_zero, List.cons_append, List.nil_append]
          refine SPL_nil ?_
          refine thenP_n ?_
          refine SP_seq ?_
          rw [if_neg (by omega)] at h
          obtain ⟨t3, hmg, hq3⟩ := Option.map_eq_some_iff.1 h
          injection hq3 with hq3 hq4
          subst hq3
          subst hq4
          obtain ⟨t1, ht1⟩ : ∃ t1 : Tb, ({ ts[j] with order := ts[j].order ++ [(⟨k2t, k2n, k2s⟩, ⟨vt, vn, vs⟩)], arr := ts[j].arr ++ [(ts[j].order.length : Int)] } : Tb) = t1 := ⟨_, rfl⟩
          rw [ht1] at hmg
          have g1 : t1.order = ts[j].order ++ [(⟨k2t, k2n, k2s⟩, ⟨vt, vn, vs⟩)] := by rw [← ht1]
          have g2 : t1.arr = ts[j].arr ++ [(ts[j].order.length : Int)] := by rw [← ht1]
          have g3 : t1.dead = ts[j].dead := by rw [← ht1]
          have g4 : t1.nums = ts[j].nums := by rw [← ht1]
          have g5 : t1.strs = ts[j].strs := by rw [← ht1]
          have g6 : t1.refs = ts[j].refs := by rw [← ht1]
          have gl : ts[j].order.length + 1 = t1.order.length := by rw [g1]; simp
          have gl2 : ts[j].arr.length + 1 = t1.arr.length := by rw [g2]; simp
          have ho2 : Arr 257 6 oa1 t1.order.length oc1 (t1.order.flatMap entV) so1 := by rw [g1, List.flatMap_append, List.length_append]; exact ho1
          have ha2 : Arr 21 1 aa1 t1.arr.length ac1 (t1.arr.map i32V) sa1 := by rw [g2, List.map_append, List.length_append]; exact ha1
          have hn2 : isMap u64K i32V mn t1.nums sn := by rw [g4]; exact hn
          obtain ⟨m1, m2, m3, m4⟩ := mig_same hmg
          clear ht1
          rw [gl, gl2, ← g3]
          refine SP_region ?_
          refine SPL_y (y_move rfl) rfl ?_
          refine SPL_y (y_move rfl) rfl ?_
          refine SPL_one rfl (SP1_call (tab_migrate b tb (0 + ((j : Nat) : Int).toNat * 6) _ _ _ c0 c2 hpre t1 oa1 aa1 oc1 ac1 mn _ _ _ so1 sa1 sn ho2 ha2 hn2 (by omega) t3 hmg) Tryz.call139 rfl rfl (by repeat (first | exact Part.nil _ | (apply Part.cons; with_reducible (first | exact P0 | exact P1 | exact P2 | exact P3 | exact P4 | exact P5 | exact P6 | exact P7 | exact P8 | exact P9 | exact P10 | exact P11 | exact P12 | exact P13 | exact P14 | exact P15 | exact P16 | exact P17 | exact P18 | exact P19 | exact P20 | exact P21 | exact P22 | exact P23)) | (apply Part.flat; simp only [List.cons_append, List.nil_append]) | (apply Part.cons; (first | exact P0 | exact P1 | exact P2 | exact P3 | exact P4 | exact P5 | exact P6 | exact P7 | exact P8 | exact P9 | exact P10 | exact P11 | exact P12 | exact P13 | exact P14 | exact P15 | exact P16 | exact P17 | exact P18 | exact P19 | exact P20 | exact P21 | exact P22 | exact P23)) | (apply Part.nilc))) ?_)
          rintro v post H' ⟨rfl, aa3, ac3, sa3, sn3, ha3, hn3, rfl⟩ hH
          try simp only [List.cons_append, List.nil_append] at hH
          subst hH
          refine SPL_nil ?_
          refine thenP_n ?_
          refine SP_seq ?_
          refine SP_region ?_
          refine SPL_y (y_assign rfl) rfl ?_
          refine SPL_nil ?_
          refine thenP_n ?_
          refine SP_ret ?_
          refine bodyP_ret (H' := [List.flatten [blk b 103 [.pointer (some ⟨nb, 0, none⟩), .slice (some ⟨tb, 0, none⟩) tl tc, I ts.length], blk tb 245 (c0 ++ [.slice oa1 (t1.order.length) oc1, .slice aa3 (t3.arr.length) ac3, .map (some mn), .map (some ms), .map (some mr), I (t1.dead)] ++ c2), s0, List.flatten [so1, sa3, sn3, ss, sr], s2]]) (Res1 rfl rfl) (by repeat (first | exact Part.nil _ | (apply Part.cons; with_reducible (first | exact P0 | exact P1 | exact P2 | exact P3 | exact P4 | exact P5 | exact P6 | exact P7 | exact P8 | exact P9 | exact P10 | exact P11 | exact P12 | exact P13 | exact P14 | exact P15 | exact P16 | exact P17 | exact P18 | exact P19 | exact P20 | exact P21 | exact P22 | exact P23)) | (apply Part.flat; simp only [List.cons_append, List.nil_append]) | (apply Part.cons; (first | exact P0 | exact P1 | exact P2 | exact P3 | exact P4 | exact P5 | exact P6 | exact P7 | exact P8 | exact P9 | exact P10 | exact P11 | exact P12 | exact P13 | exact P14 | exact P15 | exact P16 | exact P17 | exact P18 | exact P19 | exact P20 | exact P21 | exact P22 | exact P23)) | (apply Part.nilc))) ?_
          exact ⟨rfl, _, hput _ _ _ (tabR_mk (by rw [m1]) rfl (by rw [m4]) (by rw [m1]; exact ho2) ha3 hn3 (by rw [m2, g5]; exact hs) (by rw [m3, g6]; exact hr)), rfl⟩
        · refine SPL_nil ?_
          refine thenP_n ?_
          refine SP_cond_t rfl ?_
          refine SP_seq ?_
          refine SP_region ?_
          refine SPL_y (y_assign rfl) rfl ?_
          refine SPL_nil ?_
          refine thenP_n ?_
          refine SP_ret ?_
          refine thenP_ret (bodyP_ret (H' := [List.flatten [blk b 103 [.pointer (some ⟨nb, 0, none⟩), .slice (some ⟨tb, 0, none⟩) tl tc, I ts.length], blk tb 245 (c0 ++ [.slice oa (ts[j].order.length) oc, .slice aa (ts[j].arr.length) ac, .map (some mn), .map (some ms), .map (some mr), I (ts[j].dead)] ++ c2), s0, List.flatten [so, sa, sn, ss, sr], s2]]) (Res1 rfl rfl) (by repeat (first | exact Part.nil _ | (apply Part.cons; with_reducible (first | exact P0 | exact P1 | exact P2 | exact P3 | exact P4 | exact P5 | exact P6 | exact P7 | exact P8 | exact P9 | exact P10 | exact P11 | exact P12 | exact P13 | exact P14 | exact P15 | exact P16 | exact P17 | exact P18 | exact P19 | exact P20 | exact P21 | exact P22 | exact P23)) | (apply Part.flat; simp only [List.cons_append, List.nil_append]) | (apply Part.cons; (first | exact P0 | exact P1 | exact P2 | exact P3 | exact P4 | exact P5 | exact P6 | exact P7 | exact P8 | exact P9 | exact P10 | exact P11 | exact P12 | exact P13 | exact P14 | exact P15 | exact P16 | exact P17 | exact P18 | exact P19 | exact P20 | exact P21 | exact P22 | exact P23)) | (apply Part.nilc))) ?_)
          rw [if_pos rfl] at h
          cases h
          exact ⟨rfl, _, hput _ _ _ (tabR_mk rfl rfl rfl ho ha hn hs hr), rfl⟩
      intro h9_2
      refine SPO_p rfl (y_move rfl) rfl ?_
      refine SPO_py rfl rfl rfl (y_move rfl) rfl ?_
      refine SPO_py rfl rfl rfl (y_nil rfl) rfl ?_
      refine SPO_py rfl rfl rfl (y_fa fld_103_0 rfl) rfl ?_
      refine SPO_py rfl rfl rfl (y_fa fld_42_1 rfl) rfl ?_
      refine SPO_py rfl rfl rfl (y_fa fld_42_1 rfl) rfl ?_
      refine SPO_hy rfl rfl rfl (y_load Tryz.isAgg37 rfl (by repeat (first | exact Cell.amid hpre rfl | exact Cell.head rfl | apply Cell.tail))) rfl ?_
      refine SPO_hy rfl rfl rfl (y_load Tryz.isAgg40 rfl (by repeat (first | exact Cell.amid hpre rfl | exact Cell.head rfl | apply Cell.tail))) rfl ?_
      refine SPO_hy rfl rfl rfl (y_load Tryz.isAgg40 rfl (by repeat (first | exact Cell.amid hpre rfl | exact Cell.head rfl | apply Cell.tail))) rfl ?_
      refine SPO_zy (k := 0) rfl rfl rfl rfl (SP1_call (num_Cmp _ 2 km km) Tryz.call133 rfl rfl (by repeat (first | exact Part.nil _ | (apply Part.cons; with_reducible (first | exact P0 | exact P1 | exact P2 | exact P3 | exact P4 | exact P5 | exact P6 | exact P7 | exact P8 | exact P9 | exact P10 | exact P11 | exact P12 | exact P13 | exact P14 | exact P15 | exact P16 | exact P17 | exact P18 | exact P19 | exact P20 | exact P21 | exact P22 | exact P23)) | (apply Part.flat; simp only [List.cons_append, List.nil_append]) | (apply Part.cons; (first | exact P0 | exact P1 | exact P2 | exact P3 | exact P4 | exact P5 | exact P6 | exact P7 | exact P8 | exact P9 | exact P10 | exact P11 | exact P12 | exact P13 | exact P14 | exact P15 | exact P16 | exact P17 | exact P18 | exact P19 | exact P20 | exact P21 | exact P22 | exact P23)) | (apply Part.nilc))) ?_)
      rintro v post H' ⟨rfl, rfl⟩ hH
      try simp only [List.cons_append, List.nil_append] at hH
      subst hH
      generalize hcm : cmpM 2 km km = cm at h ⊢
      rcases cm with _ | _
      · refine SPO_p rfl (y_pick_t rfl rfl) rfl ?_
        refine SPO_nil ?_
        refine thenP_n ?_
        refine SP_cond_f rfl ?_
        refine SP_skip ?_
        refine thenP_n ?_
        refine SP_seq ?_
        refine SP_region ?_
        rw [if_neg (by decide), if_neg h7_2, if_neg (fun q => absurd q.2 (by decide))] at h
        obtain ⟨k2, i, hone⟩ : ∃ k2 i, oneV ⟨kt, (km : Int), ks⟩ = some (k2, i) := by
          cases hq : oneV ⟨kt, (km : Int), ks⟩ with
          | none => rw [hq] at h; cases h
          | some r => exact ⟨r.1, r.2, rfl⟩
        rw [hone] at h
        dsimp only at h
        have hir : -9223372036854775808 ≤ i ∧ i ≤ 9223372036854775807 := Decidable.byContradiction fun q => by rw [if_neg q] at h; cases h
        rw [if_pos hir] at h
        obtain ⟨⟨t9, e9⟩, h9, hq9⟩ := Option.map_eq_some_iff.1 h
        cases hq9
        clear h
        rename _ => h
        unfold setT at h
        dsimp only at h
        obtain ⟨k2t, k2n, k2s⟩ := k2
        refine SPL_y (y_move rfl) rfl ?_
        refine SPL_y (y_nil rfl) rfl ?_
        refine SPL_y (y_fa fld_103_1 rfl) rfl ?_
        refine SPL_y (y_load Tryz.isAgg101 rfl (by repeat (first | exact Cell.amid hpre rfl | exact Cell.head rfl | apply Cell.tail))) rfl ?_
        refine SPL_y (y_move rfl) rfl ?_
        refine SPL_y (y_ia Tryz.underlying101 Tryz.sizeOf245 rfl rfl (by omega)) rfl ?_
        refine SPL_y (y_assign rfl) rfl ?_
        refine SPL_nil ?_
        refine thenP_n ?_
        refine SP_seq ?_
        refine SP_region ?_
        refine SPL_y (y_move rfl) rfl ?_
        refine SPL_y (y_loads Tryz.isAgg42 Tryz.sizeOf42 rfl rfl (by repeat (first | exact Cells.all _ | exact Cells.amid hpre rfl (by decide) | exact Cells.head rfl | apply Cells.tail))) rfl ?_
        refine SPL_one rfl (SP1_call (tab_one b _ _ _ ⟨kt, km, ks⟩ hkn ⟨k2t, k2n, k2s⟩ i hone) Tryz.call134 rfl rfl (by repeat (first | exact Part.nil _ | (apply Part.cons; with_reducible (first | exact P0 | exact P1 | exact P2 | exact P3 | exact P4 | exact P5 | exact P6 | exact P7 | exact P8 | exact P9 | exact P10 | exact P11 | exact P12 | exact P13 | exact P14 | exact P15 | exact P16 | exact P17 | exact P18 | exact P19 | exact P20 | exact P21 | exact P22 | exact P23)) | (apply Part.flat; simp only [List.cons_append, List.nil_append]) | (apply Part.cons; (first | exact P0 | exact P1 | exact P2 | exact P3 | exact P4 | exact P5 | exact P6 | exact P7 | exact P8 | exact P9 | exact P10 | exact P11 | exact P12 | exact P13 | exact P14 | exact P15 | exact P16 | exact P17 | exact P18 | exact P19 | exact P20 | exact P21 | exact P22 | exact P23)) | (apply Part.nilc))) ?_)
        rintro v post H' ⟨rfl, rfl⟩ hH
        try simp only [List.cons_append, List.nil_append] at hH
        subst hH
        refine SPL_y (y_move rfl) rfl ?_
        refine SPL_y (y_ext rfl rfl) rfl ?_
        refine SPL_y (y_ext rfl rfl) rfl ?_
        refine SPL_one rfl (SP1_storeAll Tryz.sizeOf42 rfl rfl rfl rfl rfl (by first | exact U0 | exact U1 | exact U2 | exact U3 | exact U4 | exact U5 | exact U6 | exact U7 | exact U8 | exact U9 | exact U10 | exact U11 | exact U12 | exact U13 | exact U14 | exact U15 | exact U16 | exact U17 | exact U18 | exact U19 | exact U20 | exact U21 | exact U22 | exact U23) (by rfl) ?_)
        refine SPL_y (y_assign rfl) rfl ?_
        refine SPL_nil ?_
        refine thenP_n ?_
        refine SP_seq ?_
        refine SP_seq ?_
        refine SP_region ?_
        refine SPL_y (y_move rfl) rfl ?_
        refine SPL_y (y_loads Tryz.isAgg42 Tryz.sizeOf42 rfl rfl (by repeat (first | exact Cells.all _ | exact Cells.amid hpre rfl (by decide) | exact Cells.head rfl | apply Cells.tail))) rfl ?_
        refine SPL_y (y_move rfl) rfl ?_
        refine SPL_one rfl (SP1_call (tab_find tb (0 + ((j : Nat) : Int).toNat * 6) c0 c2 hpre ts[j] oa aa oc ac mn ms mr so sa sn ss sr ho ha hn hs hr ⟨k2t, k2n, k2s⟩ i hir) Tryz.call135 rfl rfl (by repeat (first | exact Part.nil _ | (apply Part.cons; with_reducible (first | exact P0 | exact P1 | exact P2 | exact P3 | exact P4 | exact P5 | exact P6 | exact P7 | exact P8 | exact P9 | exact P10 | exact P11 | exact P12 | exact P13 | exact P14 | exact P15 | exact P16 | exact P17 | exact P18 | exact P19 | exact P20 | exact P21 | exact P22 | exact P23)) | (apply Part.flat; simp only [List.cons_append, List.nil_append]) | (apply Part.cons; (first | exact P0 | exact P1 | exact P2 | exact P3 | exact P4 | exact P5 | exact P6 | exact P7 | exact P8 | exact P9 | exact P10 | exact P11 | exact P12 | exact P13 | exact P14 | exact P15 | exact P16 | exact P17 | exact P18 | exact P19 | exact P20 | exact P21 | exact P22 | exact P23)) | (apply Part.nilc))) ?_)
        rintro v post H' ⟨rfl, rfl⟩ hH
        try simp only [List.cons_append, List.nil_append] at hH
        subst hH
        refine SPL_y (y_assign rfl) rfl ?_
        refine SPL_nil ?_
        refine thenP_n ?_
        refine SP_seq ?_
        refine SP_region ?_
        refine SPL_y (y_move rfl) rfl ?_
        refine SPL_if (y_geq rfl rfl) rfl ?_ ?_
        · intro h14_1
          refine SPL_nil ?_
          refine thenP_n ?_
          refine SP_cond_t rfl ?_
          refine SP_seq ?_
          refine SP_region ?_
          rw [if_pos h14_1] at h
          have hpb : ts[j].find ⟨k2t, k2n, k2s⟩ i < ts[j].order.length ∧ ts[j].order.length ≤ 1000 ∧ -1000000 ≤ ts[j].dead ∧ ts[j].dead ≤ 1000000 := Decidable.byContradiction fun q => by rw [if_neg q] at h; cases h
          rw [if_pos hpb] at h
          obtain ⟨p, hp⟩ : ∃ p : Nat, ts[j].find ⟨k2t, k2n, k2s⟩ i = p := ⟨(ts[j].find ⟨k2t, k2n, k2s⟩ i).toNat, by omega⟩
          rw [hp] at hpb h ⊢
          have hp2 : p < ts[j].order.length := by omega
          rw [Int.toNat_natCast] at h
          cases h
          refine SPL_y (y_move rfl) rfl ?_
          refine SPL_y (y_move rfl) rfl ?_
          refine SPL_y (y_loads Tryz.isAgg42 Tryz.sizeOf42 rfl rfl (by repeat (first | exact Cells.all _ | exact Cells.amid hpre rfl (by decide) | exact Cells.head rfl | apply Cells.tail))) rfl ?_
          refine SPL_one rfl (SP1_call (tab_turn tb (0 + ((j : Nat) : Int).toNat * 6) c0 c2 hpre ts[j] oa aa oc ac mn ms mr so sa sn ss sr ho ha hn hs hr p hp2 hpb.2.1 ⟨vt, vn, vs⟩ hpb.2.2) Tryz.call136 rfl rfl (by repeat (first | exact Part.nil _ | (apply Part.cons; with_reducible (first | exact P0 | exact P1 | exact P2 | exact P3 | exact P4 | exact P5 | exact P6 | exact P7 | exact P8 | exact P9 | exact P10 | exact P11 | exact P12 | exact P13 | exact P14 | exact P15 | exact P16 | exact P17 | exact P18 | exact P19 | exact P20 | exact P21 | exact P22 | exact P23)) | (apply Part.flat; simp only [List.cons_append, List.nil_append]) | (apply Part.cons; (first | exact P0 | exact P1 | exact P2 | exact P3 | exact P4 | exact P5 | exact P6 | exact P7 | exact P8 | exact P9 | exact P10 | exact P11 | exact P12 | exact P13 | exact P14 | exact P15 | exact P16 | exact P17 | exact P18 | exact P19 | exact P20 | exact P21 | exact P22 | exact P23)) | (apply Part.nilc))) ?_)
          rintro v post H' ⟨rfl, so', ho', rfl⟩ hH
          try simp only [List.cons_append, List.nil_append] at hH
          subst hH
          refine SPL_nil ?_
          refine thenP_n ?_
          refine SP_seq ?_
          refine SP_region ?_
          refine SPL_y (y_assign rfl) rfl ?_
          refine SPL_nil ?_
          refine thenP_n ?_
          refine SP_ret ?_
          refine thenP_ret (bodyP_ret (H' := [List.flatten [blk b 103 [.pointer (some ⟨nb, 0, none⟩), .slice (some ⟨tb, 0, none⟩) tl tc, I ts.length], blk tb 245 (c0 ++ [.slice oa (ts[j].order.length) oc, .slice aa (ts[j].arr.length) ac, .map (some mn), .map (some ms), .map (some mr), I ((ts[j].turn p ⟨vt, vn, vs⟩).dead)] ++ c2), s0, List.flatten [so', sa, sn, ss, sr], s2]]) (Res1 rfl rfl) (by repeat (first | exact Part.nil _ | (apply Part.cons; with_reducible (first | exact P0 | exact P1 | exact P2 | exact P3 | exact P4 | exact P5 | exact P6 | exact P7 | exact P8 | exact P9 | exact P10 | exact P11 | exact P12 | exact P13 | exact P14 | exact P15 | exact P16 | exact P17 | exact P18 | exact P19 | exact P20 | exact P21 | exact P22 | exact P23)) | (apply Part.flat; simp only [List.cons_append, List.nil_append]) | (apply Part.cons; (first | exact P0 | exact P1 | exact P2 | exact P3 | exact P4 | exact P5 | exact P6 | exact P7 | exact P8 | exact P9 | exact P10 | exact P11 | exact P12 | exact P13 | exact P14 | exact P15 | exact P16 | exact P17 | exact P18 | exact P19 | exact P20 | exact P21 | exact P22 | exact P23)) | (apply Part.nilc))) ?_)
          exact ⟨rfl, _, hput _ _ _ (tabR_mk (turn_len _ _ _) rfl rfl ho' ha hn hs hr), rfl⟩
        intro h14_1
        refine SPL_nil ?_
        refine thenP_n ?_
        refine SP_cond_f rfl ?_
        refine SP_skip ?_
        refine thenP_n ?_
        refine SP_seq ?_
        refine SP_seq ?_
        rw [if_neg h14_1] at h
        refine SP_region ?_
        refine SPL_y (y_loads Tryz.isAgg42 Tryz.sizeOf42 rfl rfl (by repeat (first | exact Cells.all _ | exact Cells.amid hpre rfl (by decide) | exact Cells.head rfl | apply Cells.tail))) rfl ?_
        refine SPL_one rfl (SP1_call (tab_isNil ⟨vt, vn, vs⟩) Tryz.call137 rfl rfl (by repeat (first | exact Part.nil _ | (apply Part.cons; with_reducible (first | exact P0 | exact P1 | exact P2 | exact P3 | exact P4 | exact P5 | exact P6 | exact P7 | exact P8 | exact P9 | exact P10 | exact P11 | exact P12 | exact P13 | exact P14 | exact P15 | exact P16 | exact P17 | exact P18 | exact P19 | exact P20 | exact P21 | exact P22 | exact P23)) | (apply Part.flat; simp only [List.cons_append, List.nil_append]) | (apply Part.cons; (first | exact P0 | exact P1 | exact P2 | exact P3 | exact P4 | exact P5 | exact P6 | exact P7 | exact P8 | exact P9 | exact P10 | exact P11 | exact P12 | exact P13 | exact P14 | exact P15 | exact P16 | exact P17 | exact P18 | exact P19 | exact P20 | exact P21 | exact P22 | exact P23)) | (apply Part.nilc))) ?_)
        rintro v post H' ⟨rfl, rfl⟩ hH
        try simp only [List.cons_append, List.nil_append] at hH
        subst hH
        generalize hnl : isNilV ⟨vt, vn, vs⟩ = nl at h ⊢
        rcases nl with _ | _
        · refine SPL_nil ?_
          refine thenP_n ?_
          refine SP_cond_f rfl ?_
          refine SP_skip ?_
          refine thenP_n ?_
          refine SP_seq ?_
          refine SP_seq ?_
          rw [if_neg (by decide)] at h
          refine SP_region ?_
          refine SPL_y (y_move rfl) rfl ?_
          refine SPL_y (y_nil rfl) rfl ?_
          refine SPL_y (y_fa fld_245_0 rfl) rfl ?_
          refine SPL_y (y_load Tryz.isAgg240 rfl (by repeat (first | exact Cell.amid hpre rfl | exact Cell.head rfl | apply Cell.tail))) rfl ?_
          refine SPL_y (y_len_l Tryz.underlying240 rfl) rfl ?_
          refine SPL_if (y_geq rfl rfl) rfl ?_ ?_
          · intro h19_5
            refine SPL_nil ?_
            refine thenP_n ?_
            refine SP_cond_t rfl ?_
            refine SP_seq ?_
            refine SP_region ?_
            refine SPL_y (y_assign rfl) rfl ?_
            refine SPL_nil ?_
            refine thenP_n ?_
            refine SP_ret ?_
            refine thenP_ret (bodyP_ret (H' := [List.flatten [blk b 103 [.pointer (some ⟨nb, 0, none⟩), .slice (some ⟨tb, 0, none⟩) tl tc, I ts.length], blk tb 245 (c0 ++ [.slice oa (ts[j].order.length) oc, .slice aa (ts[j].arr.length) ac, .map (some mn), .map (some ms), .map (some mr), I (ts[j].dead)] ++ c2), s0, List.flatten [so, sa, sn, ss, sr], s2]]) (Res1 rfl rfl) (by repeat (first | exact Part.nil _ | (apply Part.cons; with_reducible (first | exact P0 | exact P1 | exact P2 | exact P3 | exact P4 | exact P5 | exact P6 | exact P7 | exact P8 | exact P9 | exact P10 | exact P11 | exact P12 | exact P13 | exact P14 | exact P15 | exact P16 | exact P17 | exact P18 | exact P19 | exact P20 | exact P21 | exact P22 | exact P23)) | (apply Part.flat; simp only [List.cons_append, List.nil_append]) | (apply Part.cons; (first | exact P0 | exact P1 | exact P2 | exact P3 | exact P4 | exact P5 | exact P6 | exact P7 | exact P8 | exact P9 | exact P10 | exact P11 | exact P12 | exact P13 | exact P14 | exact P15 | exact P16 | exact P17 | exact P18 | exact P19 | exact P20 | exact P21 | exact P22 | exact P23)) | (apply Part.nilc))) ?_)
            rw [if_pos (by omega)] at h
            cases h
            exact ⟨rfl, _, hput _ _ _ (tabR_mk rfl rfl rfl ho ha hn hs hr), rfl⟩
          intro h19_5
          refine SPL_nil ?_
          refine thenP_n ?_
          refine SP_cond_f rfl ?_
          refine SP_skip ?_
          refine thenP_n ?_
          refine SP_seq ?_
          rw [if_neg (by omega)] at h
          have har : ts[j].arr.length < 1000 := Decidable.byContradiction fun q => by rw [if_pos (by omega)] at h; cases h
          rw [if_neg (by omega)] at h
          refine SP_draw 9 [(0, 0), (1, 0), (2, 0), (3, 0), (4, 1), (5, 1), (6, 1), (7, 0), (8, 2), (9, 3), (10, 0), (11, 0), (12, 3)] mixed (by kernel_rfl) (fun _ _ _ _ _ h => h) (Part.refl _) ?_
          refine SPO_p rfl (y_move rfl) rfl ?_
          refine SPO_p rfl (y_move rfl) rfl ?_
          refine SPO_p rfl (y_nil rfl) rfl ?_
          refine SPO_p rfl (y_fa fld_245_0 rfl) rfl ?_
          refine SPO_h rfl (y_load Tryz.isAgg240 rfl (by repeat (first | exact Cell.amid hpre rfl | exact Cell.head rfl | apply Cell.tail))) rfl ?_
          refine SPO_h rfl (y_loads Tryz.isAgg42 Tryz.sizeOf42 rfl rfl (by repeat (first | exact Cells.all _ | exact Cells.amid hpre rfl (by decide) | exact Cells.head rfl | apply Cells.tail))) rfl ?_
          refine SPO_h rfl (y_loads Tryz.isAgg42 Tryz.sizeOf42 rfl rfl (by repeat (first | exact Cells.all _ | exact Cells.amid hpre rfl (by decide) | exact Cells.head rfl | apply Cells.tail))) rfl ?_
          refine SPO_p rfl (y_buildN (l := entV (⟨k2t, k2n, k2s⟩, ⟨vt, vn, vs⟩)) BN257 rfl (fill_ent ⟨k2t, k2n, k2s⟩ ⟨vt, vn, vs⟩)) rfl ?_
          refine SPO_a rfl rfl (SP1_slice1 el_240 rfl rfl rfl rfl rfl ?_)
          intro b90
          refine ⟨⟨_, (by repeat (first | exact Part.nil _ | (apply Part.cons; with_reducible (first | exact P0 | exact P1 | exact P2 | exact P3 | exact P4 | exact P5 | exact P6 | exact P7 | exact P8 | exact P9 | exact P10 | exact P11 | exact P12 | exact P13 | exact P14 | exact P15 | exact P16 | exact P17 | exact P18 | exact P19 | exact P20 | exact P21 | exact P22 | exact P23)) | (apply Part.flat; simp only [List.cons_append, List.nil_append]) | (apply Part.cons; (first | exact P0 | exact P1 | exact P2 | exact P3 | exact P4 | exact P5 | exact P6 | exact P7 | exact P8 | exact P9 | exact P10 | exact P11 | exact P12 | exact P13 | exact P14 | exact P15 | exact P16 | exact P17 | exact P18 | exact P19 | exact P20 | exact P21 | exact P22 | exact P23)) | (apply Part.nilc)))⟩, ?_⟩
          refine SPO_z (k := 0) rfl rfl (SP1_append el_240 (.inl Tryz.underlying240) rfl rfl ho (by first | exact P0 | exact P1 | exact P2 | exact P3 | exact P4 | exact P5 | exact P6 | exact P7 | exact P8 | exact P9 | exact P10 | exact P11 | exact P12 | exact P13 | exact P14 | exact P15 | exact P16 | exact P17 | exact P18 | exact P19 | exact P20 | exact P21 | exact P22 | exact P23) (Src.of (by repeat (first | exact Cells.all _ | exact Cells.amid hpre rfl (by decide) | exact Cells.head rfl | apply Cells.tail)) (by rfl)) (by rfl) (by omega) rfl ?_)
          intro oa1 oc1 so1 ho1
          refine SPO_p rfl (y_nil rfl) rfl ?_
          refine SPO_p rfl (y_fa fld_245_0 rfl) rfl ?_
          refine SPO_z (k := 0) rfl rfl (SP1_storeM (j := 0) Tryz.sizeOf240 rfl rfl rfl hpre (by first | exact U0 | exact U1 | exact U2 | exact U3 | exact U4 | exact U5 | exact U6 | exact U7 | exact U8 | exact U9 | exact U10 | exact U11 | exact U12 | exact U13 | exact U14 | exact U15 | exact U16 | exact U17 | exact U18 | exact U19 | exact U20 | exact U21 | exact U22 | exact U23) (by rfl) ?_)
          simp only [List.set_cons_zero, List.set_cons_succ, List.take_succ_cons, List.take_zero, List.drop_succ_cons, List.drop_zero, List.cons_append, List.nil_append]
          refine SPO_nil ?_
          refine thenP_n ?_
          refine SP_seq ?_
          refine SP_region ?_
          refine SPL_y (y_move rfl) rfl ?_
          refine SPL_y (y_nil rfl) rfl ?_
          refine SPL_y (y_fa fld_245_0 rfl) rfl ?_
          refine SPL_y (y_load Tryz.isAgg240 rfl (by repeat (first | exact Cell.amid hpre rfl | exact Cell.head rfl | apply Cell.tail))) rfl ?_
          refine SPL_y (y_len_l Tryz.underlying240 rfl) rfl ?_
          refine SPL_y (y_sub rfl rfl (by omega)) rfl ?_
          refine SPL_y (y_conv Tryz.underlying3 Tryz.underlying21 rfl (show IntKind.i32.wrap (((ts[j].order.length + 1 : Nat) : Int) - 1) = (ts[j].order.length : Int) by rw [IntKind.wrap_i32]; omega)) rfl ?_
          refine SPL_y (y_assign rfl) rfl ?_
          refine SPL_nil ?_
          refine thenP_n ?_
          refine SP_seq ?_
          refine SP_seq ?_
          refine SP_region ?_
          refine SPL_y (y_move rfl) rfl ?_
          refine SPL_y (y_move rfl) rfl ?_
          refine SPL_y (y_nil rfl) rfl ?_
          refine SPL_y (y_fa fld_245_1 rfl) rfl ?_
          refine SPL_y (y_load Tryz.isAgg241 rfl (by repeat (first | exact Cell.amid hpre rfl | exact Cell.head rfl | apply Cell.tail))) rfl ?_
          refine SPL_y (y_len_l Tryz.underlying241 rfl) rfl ?_
          refine SPL_y (y_add rfl rfl (by omega)) rfl ?_
          refine SPL_if (y_neq rfl rfl) rfl ?_ ?_
          · intro h23_7
            refine SPL_nil ?_
            refine thenP_n ?_
            refine SP_cond_t rfl ?_
            refine SP_seq ?_
            rw [if_pos (by omega)] at h
            obtain ⟨t2, hix, hq2⟩ := Option.map_eq_some_iff.1 h
            cases hq2
            obtain ⟨t1, ht1⟩ : ∃ t1 : Tb, ({ ts[j] with order := ts[j].order ++ [(⟨k2t, k2n, k2s⟩, ⟨vt, vn, vs⟩)] } : Tb) = t1 := ⟨_, rfl⟩
            rw [ht1] at hix
            have g1 : t1.order = ts[j].order ++ [(⟨k2t, k2n, k2s⟩, ⟨vt, vn, vs⟩)] := by rw [← ht1]
            have g2 : t1.arr = ts[j].arr := by rw [← ht1]
            have g3 : t1.dead = ts[j].dead := by rw [← ht1]
            have g4 : t1.nums = ts[j].nums := by rw [← ht1]
            have g5 : t1.strs = ts[j].strs := by rw [← ht1]
            have g6 : t1.refs = ts[j].refs := by rw [← ht1]
            have gl : ts[j].order.length + 1 = t1.order.length := by rw [g1]; simp
            have ho2 : Arr 257 6 oa1 t1.order.length oc1 (t1.order.flatMap entV) so1 := by rw [g1, List.flatMap_append, List.length_append]; exact ho1
            have ha2 : Arr 21 1 aa t1.arr.length ac (t1.arr.map i32V) sa := by rw [g2]; exact ha
            clear ht1
            rw [gl, ← g2, ← g3]
            refine SP_region ?_
            refine SPL_y (y_move rfl) rfl ?_
            refine SPL_y (y_loads Tryz.isAgg42 Tryz.sizeOf42 rfl rfl (by repeat (first | exact Cells.all _ | exact Cells.amid hpre rfl (by decide) | exact Cells.head rfl | apply Cells.tail))) rfl ?_
            refine SPL_y (y_move rfl) rfl ?_
            refine SPL_one rfl (SP1_call (tab_index tb (0 + ((j : Nat) : Int).toNat * 6) c0 c2 hpre t1 oa1 aa oc1 ac mn ms mr so1 sa sn ss sr ho2 ha2 (by rw [g4]; exact hn) (by rw [g5]; exact hs) (by rw [g6]; exact hr) ⟨k2t, k2n, k2s⟩ ts[j].order.length t9 hix) Tryz.call138 rfl rfl (by repeat (first | exact Part.nil _ | (apply Part.cons; with_reducible (first | exact P0 | exact P1 | exact P2 | exact P3 | exact P4 | exact P5 | exact P6 | exact P7 | exact P8 | exact P9 | exact P10 | exact P11 | exact P12 | exact P13 | exact P14 | exact P15 | exact P16 | exact P17 | exact P18 | exact P19 | exact P20 | exact P21 | exact P22 | exact P23)) | (apply Part.flat; simp only [List.cons_append, List.nil_append]) | (apply Part.cons; (first | exact P0 | exact P1 | exact P2 | exact P3 | exact P4 | exact P5 | exact P6 | exact P7 | exact P8 | exact P9 | exact P10 | exact P11 | exact P12 | exact P13 | exact P14 | exact P15 | exact P16 | exact P17 | exact P18 | exact P19 | exact P20 | exact P21 | exact P22 | exact P23)) | (apply Part.nilc))) ?_)
            rintro v post H' ⟨rfl, sn', ss', sr', hn', hs', hr', e1, e2, e3, rfl⟩ hH
            try simp only [List.cons_append, List.nil_append] at hH
            subst hH
            refine SPL_nil ?_
            refine thenP_n ?_
            refine SP_seq ?_
            refine SP_region ?_
            refine SPL_y (y_assign rfl) rfl ?_
            refine SPL_nil ?_
            refine thenP_n ?_
            refine SP_ret ?_
            refine thenP_ret (bodyP_ret (H' := [List.flatten [blk b 103 [.pointer (some ⟨nb, 0, none⟩), .slice (some ⟨tb, 0, none⟩) tl tc, I ts.length], blk tb 245 (c0 ++ [.slice oa1 (t1.order.length) oc1, .slice aa (t1.arr.length) ac, .map (some mn), .map (some ms), .map (some mr), I (t1.dead)] ++ c2), s0, List.flatten [so1, sa, sn', ss', sr'], s2]]) (Res1 rfl rfl) (by repeat (first | exact Part.nil _ | (apply Part.cons; with_reducible (first | exact P0 | exact P1 | exact P2 | exact P3 | exact P4 | exact P5 | exact P6 | exact P7 | exact P8 | exact P9 | exact P10 | exact P11 | exact P12 | exact P13 | exact P14 | exact P15 | exact P16 | exact P17 | exact P18 | exact P19 | exact P20 | exact P21 | exact P22 | exact P23)) | (apply Part.flat; simp only [List.cons_append, List.nil_append]) | (apply Part.cons; (first | exact P0 | exact P1 | exact P2 | exact P3 | exact P4 | exact P5 | exact P6 | exact P7 | exact P8 | exact P9 | exact P10 | exact P11 | exact P12 | exact P13 | exact P14 | exact P15 | exact P16 | exact P17 | exact P18 | exact P19 | exact P20 | exact P21 | exact P22 | exact P23)) | (apply Part.nilc))) ?_)
            exact ⟨rfl, _, hput _ _ _ (tabR_mk (by rw [e1]) (by rw [e2]) (by rw [e3]) (by rw [e1]; exact ho2) (by rw [e2]; exact ha2) hn' hs' hr'), rfl⟩
          intro h23_7
          refine SPL_nil ?_
          refine thenP_n ?_
          refine SP_cond_f rfl ?_
          refine SP_skip ?_
          refine thenP_n ?_
          refine SP_seq ?_
          refine SP_region ?_
          refine SPL_y (y_move rfl) rfl ?_
          refine SPL_y (y_move rfl) rfl ?_
          refine SPL_y (y_nil rfl) rfl ?_
          refine SPL_y (y_fa fld_245_1 rfl) rfl ?_
          refine SPL_y (y_load Tryz.isAgg241 rfl (by repeat (first | exact Cell.amid hpre rfl | exact Cell.head rfl | apply Cell.tail))) rfl ?_
          refine SPL_y (y_move rfl) rfl ?_
          refine SPL_one rfl (SP1_slice1 el_241 rfl rfl rfl rfl rfl ?_)
          intro b119
          refine SPL_one rfl (SP1_append el_241 (.inl Tryz.underlying241) rfl rfl ha (by first | exact P0 | exact P1 | exact P2 | exact P3 | exact P4 | exact P5 | exact P6 | exact P7 | exact P8 | exact P9 | exact P10 | exact P11 | exact P12 | exact P13 | exact P14 | exact P15 | exact P16 | exact P17 | exact P18 | exact P19 | exact P20 | exact P21 | exact P22 | exact P23) (Src.of (by repeat (first | exact Cells.all _ | exact Cells.amid hpre rfl (by decide) | exact Cells.head rfl | apply Cells.tail)) (by rfl)) (by rfl) (by omega) rfl ?_)
          intro aa1 ac1 sa1 ha1
          refine SPL_y (y_nil rfl) rfl ?_
          refine SPL_y (y_fa fld_245_1 rfl) rfl ?_
          refine SPL_one rfl (SP1_storeM (j := 1) Tryz.sizeOf241 rfl rfl rfl hpre (by first | exact U0 | exact U1 | exact U2 | exact U3 | exact U4 | exact U5 | exact U6 | exact U7 | exact U8 | exact U9 | exact U10 | exact U11 | exact U12 | exact U13 | exact U14 | exact U15 | exact U16 | exact U17 | exact U18 | exact U19 | exact U20 | exact U21 | exact U22 | exact U23) (by rfl) ?_)
          simp only [List.set_cons_zero, List.set_cons_succ, List.take_succ_cons, List.take_zero, List.drop_succ_cons, List.drop_zero, List.cons_append, List.nil_append]
          refine SPL_nil ?_
          refine thenP_n ?_
          refine SP_seq ?_
          rw [if_neg (by omega)] at h
          obtain ⟨t3, hmg, hq3⟩ := Option.map_eq_some_iff.1 h
          injection hq3 with hq3 hq4
          subst hq3
          subst hq4
          obtain ⟨t1, ht1⟩ : ∃ t1 : Tb, ({ ts[j] with order := ts[j].order ++ [(⟨k2t, k2n, k2s⟩, ⟨vt, vn, vs⟩)], arr := ts[j].arr ++ [(ts[j].order.length : Int)] } : Tb) = t1 := ⟨_, rfl⟩
          rw [ht1] at hmg
          have g1 : t1.order = ts[j].order ++ [(⟨k2t, k2n, k2s⟩, ⟨vt, vn, vs⟩)] := by rw [← ht1]
          have g2 : t1.arr = ts[j].arr ++ [(ts[j].order.length : Int)] := by rw [← ht1]
          have g3 : t1.dead = ts[j].dead := by rw [← ht1]
          have g4 : t1.nums = ts[j].nums := by rw [← ht1]
          have g5 : t1.strs = ts[j].strs := by rw [← ht1]
          have g6 : t1.refs = ts[j].refs := by rw [← ht1]
          have gl : ts[j].order.length + 1 = t1.order.length := by rw [g1]; simp
          have gl2 : ts[j].arr.length + 1 = t1.arr.length := by rw [g2]; simp
          have ho2 : Arr 257 6 oa1 t1.order.length oc1 (t1.order.flatMap entV) so1 := by rw [g1, List.flatMap_append, List.length_append]; exact ho1
          have ha2 : Arr 21 1 aa1 t1.arr.length ac1 (t1.arr.map i32V) sa1 := by rw [g2, List.map_append, List.length_append]; exact ha1
          have hn2 : isMap u64K i32V mn t1.nums sn := by rw [g4]; exact hn
          obtain ⟨m1, m2, m3, m4⟩ := mig_same hmg
          clear ht1
          rw [gl, gl2, ← g3]
          refine SP_region ?_
          refine SPL_y (y_move rfl) rfl ?_
          refine SPL_y (y_move rfl) rfl ?_
          refine SPL_one rfl (SP1_call (tab_migrate b tb (0 + ((j : Nat) : Int).toNat * 6) _ _ _ c0 c2 hpre t1 oa1 aa1 oc1 ac1 mn _ _ _ so1 sa1 sn ho2 ha2 hn2 (by omega) t3 hmg) Tryz.call139 rfl rfl (by repeat (first | exact Part.nil _ | (apply Part.cons; with_reducible (first | exact P0 | exact P1 | exact P2 | exact P3 | exact P4 | exact P5 | exact P6 | exact P7 | exact P8 | exact P9 | exact P10 | exact P11 | exact P12 | exact P13 | exact P14 | exact P15 | exact P16 | exact P17 | exact P18 | exact P19 | exact P20 | exact P21 | exact P22 | exact P23)) | (apply Part.flat; simp only [List.cons_append, List.nil_append]) | (apply Part.cons; (first | exact P0 | exact P1 | exact P2 | exact P3 | exact P4 | exact P5 | exact P6 | exact P7 | exact P8 | exact P9 | exact P10 | exact P11 | exact P12 | exact P13 | exact P14 | exact P15 | exact P16 | exact P17 | exact P18 | exact P19 | exact P20 | exact P21 | exact P22 | exact P23)) | (apply Part.nilc))) ?_)
          rintro v post H' ⟨rfl, aa3, ac3, sa3, sn3, ha3, hn3, rfl⟩ hH
          try simp only [List.cons_append, List.nil_append] at hH
          subst hH
          refine SPL_nil ?_
          refine thenP_n ?_
          refine SP_seq ?_
          refine SP_region ?_
          refine SPL_y (y_assign rfl) rfl ?_
          refine SPL_nil ?_
          refine thenP_n ?_
          refine SP_ret ?_
          refine bodyP_ret (H' := [List.flatten [blk b 103 [.pointer (some ⟨nb, 0, none⟩), .slice (some ⟨tb, 0, none⟩) tl tc, I ts.length], blk tb 245 (c0 ++ [.slice oa1 (t1.order.length) oc1, .slice aa3 (t3.arr.length) ac3, .map (some mn), .map (some ms), .map (some mr), I (t1.dead)] ++ c2), s0, List.flatten [so1, sa3, sn3, ss, sr], s2]]) (Res1 rfl rfl) (by repeat (first | exact Part.nil _ | (apply Part.cons; with_reducible (first | exact P0 | exact P1 | exact P2 | exact P3 | exact P4 | exact P5 | exact P6 | exact P7 | exact P8 | exact P9 | exact P10 | exact P11 | exact P12 | exact P13 | exact P14 | exact P15 | exact P16 | exact P17 | exact P18 | exact P19 | exact P20 | exact P21 | exact P22 | exact P23)) | (apply Part.flat; simp only [List.cons_append, List.nil_append]) | (apply Part.cons; (first | exact P0 | exact P1 | exact P2 | exact P3 | exact P4 | exact P5 | exact P6 | exact P7 | exact P8 | exact P9 | exact P10 | exact P11 | exact P12 | exact P13 | exact P14 | exact P15 | exact P16 | exact P17 | exact P18 | exact P19 | exact P20 | exact P21 | exact P22 | exact P23)) | (apply Part.nilc))) ?_
          exact ⟨rfl, _, hput _ _ _ (tabR_mk (by rw [m1]) rfl (by rw [m4]) (by rw [m1]; exact ho2) ha3 hn3 (by rw [m2, g5]; exact hs) (by rw [m3, g6]; exact hr)), rfl⟩
        · refine SPL_nil ?_
          refine thenP_n ?_
          refine SP_cond_t rfl ?_
          refine SP_seq ?_
          refine SP_region ?_
          refine SPL_y (y_assign rfl) rfl ?_
          refine SPL_nil ?_
          refine thenP_n ?_
          refine SP_ret ?_
          refine thenP_ret (bodyP_ret (H' := [List.flatten [blk b 103 [.pointer (some ⟨nb, 0, none⟩), .slice (some ⟨tb, 0, none⟩) tl tc, I ts.length], blk tb 245 (c0 ++ [.slice oa (ts[j].order.length) oc, .slice aa (ts[j].arr.length) ac, .map (some mn), .map (some ms), .map (some mr), I (ts[j].dead)] ++ c2), s0, List.flatten [so, sa, sn, ss, sr], s2]]) (Res1 rfl rfl) (by repeat (first | exact Part.nil _ | (apply Part.cons; with_reducible (first | exact P0 | exact P1 | exact P2 | exact P3 | exact P4 | exact P5 | exact P6 | exact P7 | exact P8 | exact P9 | exact P10 | exact P11 | exact P12 | exact P13 | exact P14 | exact P15 | exact P16 | exact P17 | exact P18 | exact P19 | exact P20 | exact P21 | exact P22 | exact P23)) | (apply Part.flat; simp only [List.cons_append, List.nil_append]) | (apply Part.cons; (first | exact P0 | exact P1 | exact P2 | exact P3 | exact P4 | exact P5 | exact P6 | exact P7 | exact P8 | exact P9 | exact P10 | exact P11 | exact P12 | exact P13 | exact P14 | exact P15 | exact P16 | exact P17 | exact P18 | exact P19 | exact P20 | exact P21 | exact P22 | exact P23)) | (apply Part.nilc))) ?_)
          rw [if_pos rfl] at h
          cases h
          exact ⟨rfl, _, hput _ _ _ (tabR_mk rfl rfl rfl ho ha hn hs hr), rfl⟩
      · refine SPO_p rfl (y_pick_t rfl rfl) rfl ?_
        refine SPO_nil ?_
        refine thenP_n ?_
        refine SP_cond_t rfl ?_
        refine SP_seq ?_
        refine SP_region ?_
        refine SPL_y (y_assign rfl) rfl ?_
        refine SPL_nil ?_
        refine thenP_n ?_
        refine SP_ret ?_
        refine thenP_ret (bodyP_ret (H' := [List.flatten [blk b 103 [.pointer (some ⟨nb, 0, none⟩), .slice (some ⟨tb, 0, none⟩) tl tc, I ts.length], blk tb 245 (c0 ++ [.slice oa (ts[j].order.length) oc, .slice aa (ts[j].arr.length) ac, .map (some mn), .map (some ms), .map (some mr), I (ts[j].dead)] ++ c2), s0, List.flatten [so, sa, sn, ss, sr], s2]]) (Res1 rfl rfl) (by repeat (first | exact Part.nil _ | (apply Part.cons; with_reducible (first | exact P0 | exact P1 | exact P2 | exact P3 | exact P4 | exact P5 | exact P6 | exact P7 | exact P8 | exact P9 | exact P10 | exact P11 | exact P12 | exact P13 | exact P14 | exact P15 | exact P16 | exact P17 | exact P18 | exact P19 | exact P20 | exact P21 | exact P22 | exact P23)) | (apply Part.flat; simp only [List.cons_append, List.nil_append]) | (apply Part.cons; (first | exact P0 | exact P1 | exact P2 | exact P3 | exact P4 | exact P5 | exact P6 | exact P7 | exact P8 | exact P9 | exact P10 | exact P11 | exact P12 | exact P13 | exact P14 | exact P15 | exact P16 | exact P17 | exact P18 | exact P19 | exact P20 | exact P21 | exact P22 | exact P23)) | (apply Part.nilc))) ?_)
        rw [if_neg (by decide), if_neg h7_2, if_pos ⟨h9_2, rfl⟩] at h
        cases h
        exact ⟨rfl, _, hts0, rfl⟩

end Go.Sl
