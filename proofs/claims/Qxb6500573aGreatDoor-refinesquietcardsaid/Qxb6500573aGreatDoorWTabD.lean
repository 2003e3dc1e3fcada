/- Walks: package table, Len (made by program out of short notes) -/
import Derived.Test.Qxb6500573aGreatDoorWTabC
namespace Go.Sl
open Go Go.Wl Go.Proofs
set_option maxRecDepth 100000
set_option linter.unusedVariables false
set_option linter.unusedSimpArgs false
/-- The border. -/
def lenF (t : Tb) : List Int → Nat → Option Int
  | [], n => some n
  | p :: l, n => if 0 ≤ p ∧ p < t.order.length then (if isNilV (t.order.getD p.toNat (V.nil, V.nil)).2 = true then some n else lenF t l (n + 1)) else none
def lenM (ts : List Tb) (h : Int) : Option (Int × Int) :=
  if h < 0 ∨ ts.length ≤ h then some (-1, 3)
  else
    let t := ts.getD h.toNat Tb.empty
    if t.dead = 0 then some ((t.arr.length : Int), 0)
    else if t.arr.length ≤ 1000 then (lenF t t.arr 0).map fun n => (n, 0) else none
theorem tabs_Len (b nb : Nat) (ts : List Tb) (s : Seg) (hts : isTabs b nb ts s) (hl : ts.length ≤ 1000) (j : Nat) (hj : j < ts.length) (r e : Int) (h : lenM ts j = some (r, e)) : Spec Tryz.prog 309 [.pointer (some ⟨b, 0, none⟩), I j] [s] (Ret fun v H => v = .tuple #[I r, I e] ∧ ∃ s', isTabs b nb ts s' ∧ H = [s']) := by
  have hts0 := hts
  obtain ⟨tb, tl, tc, c0, ci, c2, s0, si, s2, rfl, hpre, hjl, hR, hput⟩ := isTabs_open hts hj
  obtain ⟨oa, oc, aa, ac, mn, ms, mr, so, sa, sn, ss, sr, rfl, rfl, ho, ha, hn, hs, hr⟩ := hR
  refine Spec_openAt [blk b 103 [.pointer (some ⟨nb, 0, none⟩), .slice (some ⟨tb, 0, none⟩) tl tc, I ts.length], blk tb 245 (c0 ++ [.slice oa (ts[j].order.length) oc, .slice aa (ts[j].arr.length) ac, .map (some mn), .map (some ms), .map (some mr), I (ts[j].dead)] ++ c2), s0, List.flatten [so, sa, sn, ss, sr], s2] (by first | exact P0 | exact P1 | exact P2 | exact P3 | exact P4 | exact P5 | exact P6 | exact P7 | exact P8 | exact P9 | exact P10 | exact P11 | exact P12 | exact P13 | exact P14 | exact P15 | exact P16 | exact P17 | exact P18 | exact P19 | exact P20 | exact P21 | exact P22 | exact P23) ?_
  simp only [List.cons_append, List.nil_append]
  refine Spec_openAt [so, sa, sn, ss, sr] (by first | exact P0 | exact P1 | exact P2 | exact P3 | exact P4 | exact P5 | exact P6 | exact P7 | exact P8 | exact P9 | exact P10 | exact P11 | exact P12 | exact P13 | exact P14 | exact P15 | exact P16 | exact P17 | exact P18 | exact P19 | exact P20 | exact P21 | exact P22 | exact P23) ?_
  simp only [List.cons_append, List.nil_append]
  unfold lenM at h
  rw [if_neg (by omega)] at h
  have hgd : ts.getD ((j : Nat) : Int).toNat Tb.empty = ts[j] := by rw [Int.toNat_natCast, List.getD_eq_getElem?_getD, List.getElem?_eq_getElem hj]; rfl
  rw [hgd] at h
  dsimp only at h
  refine Spec_enter Tryz.func309 rfl Tryz.ntmps309 rfl ?_
  show SP _ _ _ _ _ [(0, _), (1, _)] _
  refine SP_seq ?_
  refine SP_region ?_
  refine SPL_y (y_assign rfl) rfl ?_
  refine SPL_y (y_assign rfl) rfl ?_
  refine SPL_nil ?_
  refine thenP_n ?_
  refine SP_seq ?_
  refine SP_seq ?_
  refine SP_region ?_
  refine SPL_y (y_move rfl) rfl ?_
  refine SPL_if (y_lss rfl rfl) rfl ?_ ?_
  · intro h1_1
    omega
  intro h1_1
  refine SPL_y (y_move rfl) rfl ?_
  refine SPL_gy rfl rfl ?_
  refine SPL_y (y_move rfl) rfl ?_
  refine SPL_gy rfl rfl ?_
  refine SPL_y (y_move rfl) rfl ?_
  refine SPL_gy rfl rfl ?_
  refine SPL_y (y_nil rfl) rfl ?_
  refine SPL_gy rfl rfl ?_
  refine SPL_y (y_fa fld_103_2 rfl) rfl ?_
  refine SPL_gy rfl rfl ?_
  refine SPL_y (y_load Tryz.isAgg3 rfl (by repeat (first | exact Cell.amid hpre rfl | exact Cell.head rfl | apply Cell.tail))) rfl ?_
  refine SPL_gy rfl rfl ?_
  refine SPL_if (y_geq rfl rfl) rfl ?_ ?_
  · intro h1_8
    omega
  intro h1_8
  refine SPL_y (y_pick_f rfl rfl) rfl ?_
  refine SPL_nil ?_
  refine thenP_n ?_
  refine SP_cond_f rfl ?_
  refine SP_skip ?_
  refine thenP_n ?_
  refine SP_seq ?_
  refine SP_region ?_
  refine SPL_y (y_move rfl) rfl ?_
  refine SPL_y (y_nil rfl) rfl ?_
  refine SPL_y (y_fa fld_103_1 rfl) rfl ?_
  refine SPL_y (y_load Tryz.isAgg101 rfl (by repeat (first | exact Cell.amid hpre rfl | exact Cell.head rfl | apply Cell.tail))) rfl ?_
  refine SPL_y (y_move rfl) rfl ?_
  refine SPL_y (y_ia Tryz.underlying101 Tryz.sizeOf245 rfl rfl (by omega)) rfl ?_
  refine SPL_y (y_assign rfl) rfl ?_
  refine SPL_nil ?_
  refine thenP_n ?_
  refine SP_seq ?_
  refine SP_seq ?_
  refine SP_region ?_
  refine SPL_y (y_move rfl) rfl ?_
  refine SPL_y (y_nil rfl) rfl ?_
  refine SPL_y (y_fa fld_245_5 rfl) rfl ?_
  refine SPL_y (y_load Tryz.isAgg3 rfl (by repeat (first | exact Cell.amid hpre rfl | exact Cell.head rfl | apply Cell.tail))) rfl ?_
  refine SPL_if (y_eql rfl rfl) rfl ?_ ?_
  · intro h4_4
    refine SPL_nil ?_
    refine thenP_n ?_
    refine SP_cond_t rfl ?_
    refine SP_seq ?_
    refine SP_region ?_
    refine SPL_y (y_move rfl) rfl ?_
    refine SPL_y (y_nil rfl) rfl ?_
    refine SPL_y (y_fa fld_245_1 rfl) rfl ?_
    refine SPL_y (y_load Tryz.isAgg241 rfl (by repeat (first | exact Cell.amid hpre rfl | exact Cell.head rfl | apply Cell.tail))) rfl ?_
    refine SPL_y (y_len_l Tryz.underlying241 rfl) rfl ?_
    refine SPL_y (y_assign rfl) rfl ?_
    refine SPL_y (y_assign rfl) rfl ?_
    refine SPL_nil ?_
    refine thenP_n ?_
    refine SP_ret ?_
    refine thenP_ret (bodyP_ret (H' := [List.flatten [blk b 103 [.pointer (some ⟨nb, 0, none⟩), .slice (some ⟨tb, 0, none⟩) tl tc, I ts.length], blk tb 245 (c0 ++ [.slice oa (ts[j].order.length) oc, .slice aa (ts[j].arr.length) ac, .map (some mn), .map (some ms), .map (some mr), I (ts[j].dead)] ++ c2), s0, List.flatten [so, sa, sn, ss, sr], s2]]) (Res2 rfl rfl rfl) (by repeat (first | exact Part.nil _ | (apply Part.cons; (first | exact P0 | exact P1 | exact P2 | exact P3 | exact P4 | exact P5 | exact P6 | exact P7 | exact P8 | exact P9 | exact P10 | exact P11 | exact P12 | exact P13 | exact P14 | exact P15 | exact P16 | exact P17 | exact P18 | exact P19 | exact P20 | exact P21 | exact P22 | exact P23)) | (apply Part.flat; simp only [List.cons_append, List.nil_append]) | (apply Part.nilc))) ?_)
    rw [if_pos h4_4] at h
    cases h
    exact ⟨rfl, _, hts0, rfl⟩
  intro h4_4
  refine SPL_nil ?_
  refine thenP_n ?_
  refine SP_cond_f rfl ?_
  refine SP_skip ?_
  refine thenP_n ?_
  refine SP_seq ?_
  refine SP_seq ?_
  rw [if_neg h4_4] at h
  have hal : ts[j].arr.length ≤ 1000 := Decidable.byContradiction fun q => by rw [if_neg q] at h; cases h
  rw [if_pos hal] at h
  obtain ⟨n9, hn9, hq9⟩ := Option.map_eq_some_iff.1 h
  cases hq9
  refine SP_region ?_
  refine SPL_y (y_move rfl) rfl ?_
  refine SPL_y (y_nil rfl) rfl ?_
  refine SPL_y (y_fa fld_245_1 rfl) rfl ?_
  refine SPL_y (y_load Tryz.isAgg241 rfl (by repeat (first | exact Cell.amid hpre rfl | exact Cell.head rfl | apply Cell.tail))) rfl ?_
  refine SPL_y (y_len_l Tryz.underlying241 rfl) rfl ?_
  refine SPL_y (y_move rfl) rfl ?_
  refine SPL_nil ?_
  refine thenP_n ?_
  refine SP_block ?_
  refine SP_loop (G := Nat) (fun m => ts[j].arr.length - m) (fun m => [(0, .pointer (some ⟨b, 0, none⟩)), (6, .pointer (some ⟨tb, 0 + ((j : Nat) : Int).toNat * 6, none⟩)), (38, .slice aa ts[j].arr.length ac), (39, I ts[j].arr.length), (40, I m)]) (fun _ => [so, sa, sn, ss, sr, blk b 103 [.pointer (some ⟨nb, 0, none⟩), .slice (some ⟨tb, 0, none⟩) tl tc, I ts.length], blk tb 245 (c0 ++ [.slice oa (ts[j].order.length) oc, .slice aa (ts[j].arr.length) ac, .map (some mn), .map (some ms), .map (some mr), I (ts[j].dead)] ++ c2), s0, s2]) (fun m => m ≤ ts[j].arr.length ∧ lenF ts[j] (ts[j].arr.drop m) m = some r) (0) (⟨Nat.zero_le _, by simpa using hn9⟩) (by repeat (first | exact Sub.nil _ | refine Sub.cons rfl ?_)) (by repeat (first | exact Part.nil _ | (apply Part.cons; (first | exact P0 | exact P1 | exact P2 | exact P3 | exact P4 | exact P5 | exact P6 | exact P7 | exact P8 | exact P9 | exact P10 | exact P11 | exact P12 | exact P13 | exact P14 | exact P15 | exact P16 | exact P17 | exact P18 | exact P19 | exact P20 | exact P21 | exact P22 | exact P23)) | (apply Part.flat; simp only [List.cons_append, List.nil_append]) | (apply Part.nilc))) ?_
  rintro m ⟨hm1, hm2⟩
  refine SP_seq ?_
  refine SP_region ?_
  refine SPL_ifn (y_lss rfl rfl) rfl ?_ ?_
  · intro h7_0
    refine SPL_nil ?_
    refine thenP_n ?_
    refine SP_seq ?_
    refine SP_cond_f rfl ?_
    refine SP_exit ?_
    refine thenP_exit ?_
    refine thenP_exit ?_
    refine inBlockP_hit ?_
    refine thenP_n ?_
    refine SP_seq ?_
    refine SP_region ?_
    refine SPL_y (y_move rfl) rfl ?_
    refine SPL_y (y_nil rfl) rfl ?_
    refine SPL_y (y_fa fld_245_1 rfl) rfl ?_
    refine SPL_y (y_load Tryz.isAgg241 rfl (by repeat (first | exact Cell.amid hpre rfl | exact Cell.head rfl | apply Cell.tail))) rfl ?_
    refine SPL_y (y_len_l Tryz.underlying241 rfl) rfl ?_
    refine SPL_y (y_assign rfl) rfl ?_
    refine SPL_y (y_assign rfl) rfl ?_
    refine SPL_nil ?_
    refine thenP_n ?_
    refine SP_ret ?_
    refine bodyP_ret (H' := [List.flatten [blk b 103 [.pointer (some ⟨nb, 0, none⟩), .slice (some ⟨tb, 0, none⟩) tl tc, I ts.length], blk tb 245 (c0 ++ [.slice oa (ts[j].order.length) oc, .slice aa (ts[j].arr.length) ac, .map (some mn), .map (some ms), .map (some mr), I (ts[j].dead)] ++ c2), s0, List.flatten [so, sa, sn, ss, sr], s2]]) (Res2 rfl rfl rfl) (by repeat (first | exact Part.nil _ | (apply Part.cons; (first | exact P0 | exact P1 | exact P2 | exact P3 | exact P4 | exact P5 | exact P6 | exact P7 | exact P8 | exact P9 | exact P10 | exact P11 | exact P12 | exact P13 | exact P14 | exact P15 | exact P16 | exact P17 | exact P18 | exact P19 | exact P20 | exact P21 | exact P22 | exact P23)) | (apply Part.flat; simp only [List.cons_append, List.nil_append]) | (apply Part.nilc))) ?_
    rw [List.drop_eq_nil_of_le (by omega)] at hm2
    unfold lenF at hm2
    cases hm2
    obtain rfl : m = ts[j].arr.length := by omega
    exact ⟨rfl, _, hts0, rfl⟩
  intro h7_0
  refine SPL_nil ?_
  refine thenP_n ?_
  refine SP_seq ?_
  refine SP_cond_t rfl ?_
  refine SP_skip ?_
  refine thenP_n ?_
  refine SP_seq ?_
  refine SP_block ?_
  refine SP_seq ?_
  obtain ⟨ab, asp, rfl, hac, hasp, rfl⟩ := ha.row (by omega)
  have hmn : m < ts[j].arr.length := by omega
  rw [List.drop_eq_getElem_cons hmn] at hm2
  unfold lenF at hm2
  have hpr : 0 ≤ ts[j].arr[m] ∧ ts[j].arr[m] < ts[j].order.length := Decidable.byContradiction fun q => by rw [if_neg q] at hm2; cases hm2
  rw [if_pos hpr] at hm2
  obtain ⟨p, hp⟩ : ∃ p : Nat, ts[j].arr[m] = p := ⟨(ts[j].arr[m]).toNat, by omega⟩
  rw [hp] at hm2 hpr
  have hp2 : p < ts[j].order.length := by omega
  rw [Int.toNat_natCast, List.getD_eq_getElem?_getD, List.getElem?_eq_getElem hp2] at hm2
  dsimp only [Option.getD_some] at hm2
  have hc8 : ts[j].arr.getD ((m : Nat) : Int).toNat 0 = p := by rw [Int.toNat_natCast, List.getD_eq_getElem?_getD, List.getElem?_eq_getElem hmn, Option.getD_some, hp]
  obtain ⟨ob, osp, rfl, hoc, hosp, rfl⟩ := ho.row (by omega)
  refine SP_region ?_
  refine SPL_y (y_move rfl) rfl ?_
  refine SPL_y (y_ia Tryz.underlying241 Tryz.sizeOf21 rfl rfl (by omega)) rfl ?_
  refine SPL_y (y_load Tryz.isAgg21 rfl (by repeat (first | exact arr_cell (j := ((m : Nat) : Int)) (by omega) (by omega) | apply Cell.tail))) rfl ?_
  rw [hc8]
  unfold i32V
  refine SPL_y (y_assign rfl) rfl ?_
  refine SPL_y (y_assign rfl) rfl ?_
  refine SPL_nil ?_
  refine thenP_n ?_
  refine SP_seq ?_
  refine SP_region ?_
  refine SPL_y (y_move rfl) rfl ?_
  refine SPL_y (y_nil rfl) rfl ?_
  refine SPL_y (y_fa fld_245_0 rfl) rfl ?_
  refine SPL_y (y_load Tryz.isAgg240 rfl (by repeat (first | exact Cell.amid hpre rfl | exact Cell.head rfl | apply Cell.tail))) rfl ?_
  refine SPL_y (y_move rfl) rfl ?_
  refine SPL_y (y_ia Tryz.underlying240 Tryz.sizeOf257 rfl rfl (by omega)) rfl ?_
  refine SPL_y (y_fa fld_257_1 rfl) rfl ?_
  refine SPL_y (y_loads Tryz.isAgg42 Tryz.sizeOf42 rfl rfl (by repeat (first | exact flat_cellsQ (vs := valV ts[j].order[p].2) entV_len rfl hp2 rfl | apply Cells.tail))) rfl ?_
  refine SPL_one rfl (SP1_call (tab_isNil ts[j].order[p].2) Tryz.call137 rfl rfl (by repeat (first | exact Part.nil _ | (apply Part.cons; (first | exact P0 | exact P1 | exact P2 | exact P3 | exact P4 | exact P5 | exact P6 | exact P7 | exact P8 | exact P9 | exact P10 | exact P11 | exact P12 | exact P13 | exact P14 | exact P15 | exact P16 | exact P17 | exact P18 | exact P19 | exact P20 | exact P21 | exact P22 | exact P23)) | (apply Part.flat; simp only [List.cons_append, List.nil_append]) | (apply Part.nilc))) ?_)
  rintro v post H' ⟨rfl, rfl⟩ hH
  try simp only [List.cons_append, List.nil_append] at hH
  subst hH
  generalize hnl : isNilV ts[j].order[p].2 = nl
  rcases nl with _ | _
  · refine SPL_nil ?_
    refine thenP_n ?_
    refine SP_cond_f rfl ?_
    refine SP_skip ?_
    refine inBlockP_n ?_
    refine thenP_n ?_
    refine SP_region ?_
    refine SPL_y (y_add rfl rfl (by omega)) rfl ?_
    refine SPL_y (y_move rfl) rfl ?_
    refine SPL_nil ?_
    refine thenP_n ?_
    rw [if_neg (by rw [hnl]; decide)] at hm2
    exact Again.intro (m + 1) (⟨by omega, hm2⟩) (by omega) (by repeat (first | exact Sub.nil _ | refine Sub.cons rfl ?_)) (by repeat (first | exact Part.nil _ | (apply Part.cons; (first | exact P0 | exact P1 | exact P2 | exact P3 | exact P4 | exact P5 | exact P6 | exact P7 | exact P8 | exact P9 | exact P10 | exact P11 | exact P12 | exact P13 | exact P14 | exact P15 | exact P16 | exact P17 | exact P18 | exact P19 | exact P20 | exact P21 | exact P22 | exact P23)) | (apply Part.flat; simp only [List.cons_append, List.nil_append]) | (apply Part.nilc)))
  · refine SPL_nil ?_
    refine thenP_n ?_
    refine SP_cond_t rfl ?_
    refine SP_seq ?_
    refine SP_region ?_
    refine SPL_y (y_move rfl) rfl ?_
    refine SPL_y (y_assign rfl) rfl ?_
    refine SPL_y (y_assign rfl) rfl ?_
    refine SPL_nil ?_
    refine thenP_n ?_
    refine SP_ret ?_
    refine inBlockP_ret (thenP_ret (thenP_ret (inBlockP_ret (thenP_ret (bodyP_ret (H' := [List.flatten [blk b 103 [.pointer (some ⟨nb, 0, none⟩), .slice (some ⟨tb, 0, none⟩) tl tc, I ts.length], blk tb 245 (c0 ++ [.slice (some ⟨ob, 0, none⟩) (ts[j].order.length) oc, .slice (some ⟨ab, 0, none⟩) (ts[j].arr.length) ac, .map (some mn), .map (some ms), .map (some mr), I (ts[j].dead)] ++ c2), s0, List.flatten [blk ob 257 (ts[j].order.flatMap entV ++ osp), blk ab 21 (ts[j].arr.map i32V ++ asp), sn, ss, sr], s2]]) (Res2 rfl rfl rfl) (by repeat (first | exact Part.nil _ | (apply Part.cons; (first | exact P0 | exact P1 | exact P2 | exact P3 | exact P4 | exact P5 | exact P6 | exact P7 | exact P8 | exact P9 | exact P10 | exact P11 | exact P12 | exact P13 | exact P14 | exact P15 | exact P16 | exact P17 | exact P18 | exact P19 | exact P20 | exact P21 | exact P22 | exact P23)) | (apply Part.flat; simp only [List.cons_append, List.nil_append]) | (apply Part.nilc))) ?_)))))
    rw [if_pos hnl] at hm2
    cases hm2
    exact ⟨rfl, _, hts0, rfl⟩

end Go.Sl
