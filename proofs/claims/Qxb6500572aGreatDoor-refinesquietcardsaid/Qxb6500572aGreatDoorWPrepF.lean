/- Walks: package prep, branches and special instructions (made by program out of short notes) -/
import Derived.Test.Qxb6500572aGreatDoorWPrepE
import Derived.Test.Qxb6500572aGreatDoorPProg
namespace Go.Sl
open Go Go.Wl Go.Proofs
set_option maxRecDepth 100000
set_option linter.unusedVariables false
set_option linter.unusedSimpArgs false
theorem prep_branch (k : Nat) (pv uv mv : Value) (oa : Option Addr) (C : Chk) (s : Seg) (c : Ins) (hm : isChk k pv uv mv oa C s) (hN : 0 < C.opn.length) (hht : C.top.height ≤ C.st.length) (hz : C.st.length ≤ 100000 ∧ C.opn.length ≤ 100000 ∧ C.code.length ≤ 100000) (hw : ∀ b, b ∈ C.opn → b.wait.length ≤ 1000) (hc0 : 0 ≤ c.imm) (hcar : ∀ b, b ∈ C.opn → b.carry.length ≤ 100) : Spec Tryz.prog 119 [.pointer (some ⟨k, 0, none⟩), .agg (insV c).toArray] [s] (Ret fun v H => ∃ s', v = I (branch C c).2 ∧ H = [s'] ∧ isChk k pv uv mv oa (branch C c).1 s') := by
  have hm0 := hm
  obtain ⟨l, hl⟩ := Int.eq_ofNat_of_zero_le hc0
  have hins : insV c = [I c.op, I ((l : Nat) : Int), S c.tab] := by rw [insV, hl]
  rw [hins]
  refine Spec_enter Tryz.func119 rfl Tryz.ntmps119 rfl ?_
  show SP _ _ _ _ _ [(0, _), (1, _)] _
  refine SP_seq ?_
  refine SP_region ?_
  refine SPL_one rfl (SP1_box rfl rfl rfl ?_)
  intro b3
  refine SPL_y (y_assign rfl) rfl ?_
  refine SPL_nil ?_
  refine thenP_n ?_
  refine SP_seq ?_
  refine SP_seq ?_
  obtain ⟨ta, tc, oc, ca, cc, st, so, sb, cd, cs, rfl, hst, hop, hob, hcd⟩ := hm
  refine SP_open (pre := [_, _, _, _, _]) (by first | exact P0 | exact P1 | exact P2 | exact P3 | exact P4 | exact P5 | exact P6 | exact P7 | exact P8 | exact P9 | exact P10 | exact P11 | exact P12 | exact P13 | exact P14 | exact P15 | exact P16 | exact P17 | exact P18 | exact P19 | exact P20 | exact P21 | exact P22 | exact P23) ?_
  simp only [List.cons_append, List.nil_append]
  refine SP_draw 999 [(0, 0), (2, 0), (3, 0), (4, 0), (1, 1), (5, 1), (6, 0), (7, 0)] mixed (by kernel_rfl) (fun _ _ _ _ _ h => h) (Part.refl _) ?_
  refine SPO_p rfl (y_fa fld_87_1 rfl) rfl ?_
  refine SPO_p rfl (y_move rfl) rfl ?_
  refine SPO_p rfl (y_nil rfl) rfl ?_
  refine SPO_p rfl (y_fa fld_191_3 rfl) rfl ?_
  refine SPO_h rfl (y_load Tryz.isAgg3 rfl (by repeat (first | exact Cell.head rfl | apply Cell.tail))) rfl ?_
  refine SPO_h rfl (y_load Tryz.isAgg188 rfl (by repeat (first | exact Cell.head rfl | apply Cell.tail))) rfl ?_
  refine SPO_p rfl (y_len_l Tryz.underlying188 rfl) rfl ?_
  refine SPO_if rfl (y_geq rfl rfl) rfl ?_ ?_
  · intro h1_7
    refine SPO_nil ?_
    refine thenP_n ?_
    refine SP_cond_t rfl ?_
    refine SP_seq ?_
    refine SP_region ?_
    refine SPL_y (y_assign rfl) rfl ?_
    refine SPL_nil ?_
    refine thenP_n ?_
    refine SP_ret ?_
    refine thenP_ret (bodyP_ret (H' := [List.flatten [blk k 191 [pv, uv, .slice ta C.st.length tc, .slice oa C.opn.length oc, .slice ca C.code.length cc, mv], st, so, sb, cd]]) (Res1 rfl rfl) (by repeat (first | exact Part.nil _ | (apply Part.cons; (first | exact P0 | exact P1 | exact P2 | exact P3 | exact P4 | exact P5 | exact P6 | exact P7 | exact P8 | exact P9 | exact P10 | exact P11 | exact P12 | exact P13 | exact P14 | exact P15 | exact P16 | exact P17 | exact P18 | exact P19 | exact P20 | exact P21 | exact P22 | exact P23)) | (apply Part.flat; simp only [List.cons_append, List.nil_append]) | (apply Part.nilc))) ?_)
    have e : branch C c = (C, 5) := by unfold branch; rw [if_pos (by rw [hl]; omega)]
    rw [e]
    exact ⟨_, rfl, rfl, isChk.intro rfl rfl rfl hst hop hob hcd⟩
  intro h1_7
  refine SPO_nil ?_
  refine thenP_n ?_
  refine SP_cond_f rfl ?_
  refine SP_skip ?_
  refine thenP_n ?_
  refine SP_seq ?_
  have hJ : Less C C := Less.refl C
  refine SP_region ?_
  refine SPL_y (y_move rfl) rfl ?_
  refine SPL_y (y_fa fld_87_0 rfl) rfl ?_
  refine SPL_y (y_load Tryz.isAgg3 rfl (by repeat (first | exact Cell.head rfl | apply Cell.tail))) rfl ?_
  refine SPL_y (y_fa fld_87_1 rfl) rfl ?_
  refine SPL_y (y_load Tryz.isAgg3 rfl (by repeat (first | exact Cell.head rfl | apply Cell.tail))) rfl ?_
  refine SPL_one rfl (SP1_call (prep_jump k pv uv mv oa C _ c.op l hm0 (by omega) ⟨by omega, by omega, by omega⟩ (fun b hb => by have := hw b hb; omega)) Tryz.call145 rfl rfl (by repeat (first | exact Part.nil _ | (apply Part.cons; (first | exact P0 | exact P1 | exact P2 | exact P3 | exact P4 | exact P5 | exact P6 | exact P7 | exact P8 | exact P9 | exact P10 | exact P11 | exact P12 | exact P13 | exact P14 | exact P15 | exact P16 | exact P17 | exact P18 | exact P19 | exact P20 | exact P21 | exact P22 | exact P23)) | (apply Part.flat; simp only [List.cons_append, List.nil_append]) | (apply Part.nilc))) ?_)
  rintro v post H' ⟨s2, rfl, rfl, hm2⟩ hH
  try simp only [List.cons_append, List.nil_append] at hH
  subst hH
  have hj1 := jump_st C c.op l
  have hj2 := jump_code C c.op l
  have hj3 := jump_strip C c.op l
  have hj4 := strip_len hj3
  have hj5 := (strip_fields (strip_top hj3)).2.2.1
  have hjc : (jump C c.op l).2.length ≤ 100 := by
    unfold jump; dsimp only
    exact hcar _ (by rw [List.getD_eq_getElem?_getD, List.getElem?_eq_getElem (by omega)]; exact List.getElem_mem _)
  generalize hJP : jump C c.op l = JP at *
  obtain ⟨C2, car⟩ := JP
  dsimp only at hm2 hj1 hj2 hj3 hj4 hj5 hjc ⊢
  have hN2 : 0 < C2.opn.length := by omega
  have hht2 : C2.top.height ≤ C2.st.length := by rw [hj5, hj1]; exact hht
  have hz2 : C2.st.length ≤ 1000000 ∧ C2.opn.length ≤ 1000000 ∧ C2.code.length ≤ 1000000 := by rw [hj1, hj4, hj2]; omega
  refine SPL_y (y_assign rfl) rfl ?_
  refine SPL_nil ?_
  refine thenP_n ?_
  refine SP_seq ?_
  refine SP_seq ?_
  refine SP_region ?_
  refine SPL_y (y_fa fld_87_0 rfl) rfl ?_
  refine SPL_y (y_load Tryz.isAgg3 rfl (by repeat (first | exact Cell.head rfl | apply Cell.tail))) rfl ?_
  refine SPL_if (y_eql rfl rfl) rfl ?_ ?_
  · intro h4_2
    refine SPL_nil ?_
    refine thenP_n ?_
    refine SP_cond_t rfl ?_
    refine SP_seq ?_
    refine SP_region ?_
    refine SPL_y (y_move rfl) rfl ?_
    refine SPL_y (y_move rfl) rfl ?_
    refine SPL_one rfl (SP1_call (prep_leaves k pv uv mv oa C2 s2 car hm2 hN2 hht2 hz2 (by omega)) Tryz.call109 rfl rfl (by repeat (first | exact Part.nil _ | (apply Part.cons; (first | exact P0 | exact P1 | exact P2 | exact P3 | exact P4 | exact P5 | exact P6 | exact P7 | exact P8 | exact P9 | exact P10 | exact P11 | exact P12 | exact P13 | exact P14 | exact P15 | exact P16 | exact P17 | exact P18 | exact P19 | exact P20 | exact P21 | exact P22 | exact P23)) | (apply Part.flat; simp only [List.cons_append, List.nil_append]) | (apply Part.nilc))) ?_)
    rintro v post H' ⟨s3, rfl, rfl, hm3⟩ hH
    try simp only [List.cons_append, List.nil_append] at hH
    subst hH
    refine SPL_y (y_assign rfl) rfl ?_
    refine SPL_nil ?_
    refine thenP_n ?_
    refine SP_ret ?_
    refine thenP_ret (bodyP_ret (H' := [s3]) (Res1 rfl rfl) (by repeat (first | exact Part.nil _ | (apply Part.cons; (first | exact P0 | exact P1 | exact P2 | exact P3 | exact P4 | exact P5 | exact P6 | exact P7 | exact P8 | exact P9 | exact P10 | exact P11 | exact P12 | exact P13 | exact P14 | exact P15 | exact P16 | exact P17 | exact P18 | exact P19 | exact P20 | exact P21 | exact P22 | exact P23)) | (apply Part.flat; simp only [List.cons_append, List.nil_append]) | (apply Part.nilc))) ?_)
    have e : branch C c = leaves C2 car := by unfold branch; rw [if_neg (by rw [hl]; omega)]; dsimp only; rw [hl, Int.toNat_natCast, hJP, if_pos h4_2]
    rw [e]
    exact ⟨_, rfl, rfl, hm3⟩
  intro h4_2
  refine SPL_nil ?_
  refine thenP_n ?_
  refine SP_cond_f rfl ?_
  refine SP_skip ?_
  refine thenP_n ?_
  refine SP_seq ?_
  refine SP_region ?_
  refine SPL_y (y_move rfl) rfl ?_
  refine SPL_y (y_move rfl) rfl ?_
  refine SPL_y (y_cat rfl rfl (by first | omega | (simp; omega))) rfl ?_
  refine SPL_y (y_move rfl) rfl ?_
  refine SPL_one rfl (SP1_call (prep_swap k pv uv mv oa C2 s2 (car ++ [105]) car hm2 hN2 hht2 hz2 (by simp; omega) (by omega)) Tryz.call122 rfl rfl (by repeat (first | exact Part.nil _ | (apply Part.cons; (first | exact P0 | exact P1 | exact P2 | exact P3 | exact P4 | exact P5 | exact P6 | exact P7 | exact P8 | exact P9 | exact P10 | exact P11 | exact P12 | exact P13 | exact P14 | exact P15 | exact P16 | exact P17 | exact P18 | exact P19 | exact P20 | exact P21 | exact P22 | exact P23)) | (apply Part.flat; simp only [List.cons_append, List.nil_append]) | (apply Part.nilc))) ?_)
  rintro v post H' ⟨s3, rfl, rfl, hm3⟩ hH
  try simp only [List.cons_append, List.nil_append] at hH
  subst hH
  refine SPL_y (y_assign rfl) rfl ?_
  refine SPL_nil ?_
  refine thenP_n ?_
  refine SP_ret ?_
  refine bodyP_ret (H' := [s3]) (Res1 rfl rfl) (by repeat (first | exact Part.nil _ | (apply Part.cons; (first | exact P0 | exact P1 | exact P2 | exact P3 | exact P4 | exact P5 | exact P6 | exact P7 | exact P8 | exact P9 | exact P10 | exact P11 | exact P12 | exact P13 | exact P14 | exact P15 | exact P16 | exact P17 | exact P18 | exact P19 | exact P20 | exact P21 | exact P22 | exact P23)) | (apply Part.flat; simp only [List.cons_append, List.nil_append]) | (apply Part.nilc))) ?_
  have e : branch C c = swap C2 (car ++ [105]) car := by unfold branch; rw [if_neg (by rw [hl]; omega)]; dsimp only; rw [hl, Int.toNat_natCast, hJP, if_neg h4_2]
  rw [e]
  exact ⟨_, rfl, rfl, hm3⟩

theorem prep_sel (k : Nat) (pv uv mv : Value) (oa : Option Addr) (C : Chk) (s : Seg) (c : Ins) (hm : isChk k pv uv mv oa C s) (hN : 0 < C.opn.length) (hht : C.top.height ≤ C.st.length) (hz : C.st.length ≤ 100000 ∧ C.opn.length ≤ 100000 ∧ C.code.length ≤ 100000) : Spec Tryz.prog 114 [.pointer (some ⟨k, 0, none⟩), .agg (insV c).toArray] [s] (Ret fun v H => ∃ s', v = I (sel C).2 ∧ H = [s'] ∧ isChk k pv uv mv oa (sel C).1 s') := by
  refine Spec_enter Tryz.func114 rfl Tryz.ntmps114 rfl ?_
  show SP _ _ _ _ _ [(0, _), (1, _)] _
  refine SP_seq ?_
  refine SP_region ?_
  refine SPL_one rfl (SP1_box rfl rfl rfl ?_)
  intro b3
  refine SPL_y (y_assign rfl) rfl ?_
  refine SPL_nil ?_
  refine thenP_n ?_
  refine SP_seq ?_
  refine SP_region ?_
  refine SPL_y (y_move rfl) rfl ?_
  refine SPL_one rfl (SP1_call (prep_pops k pv uv mv oa C s [105] hm hN hht ⟨by omega, by omega, by omega⟩ (by decide)) Tryz.call112 rfl rfl (by repeat (first | exact Part.nil _ | (apply Part.cons; (first | exact P0 | exact P1 | exact P2 | exact P3 | exact P4 | exact P5 | exact P6 | exact P7 | exact P8 | exact P9 | exact P10 | exact P11 | exact P12 | exact P13 | exact P14 | exact P15 | exact P16 | exact P17 | exact P18 | exact P19 | exact P20 | exact P21 | exact P22 | exact P23)) | (apply Part.flat; simp only [List.cons_append, List.nil_append]) | (apply Part.nilc))) ?_)
  rintro v post H' ⟨s1, rfl, rfl, hm1⟩ hH
  try simp only [List.cons_append, List.nil_append] at hH
  subst hH
  have hls := pops_less C [105]
  generalize hP : pops C [105] = P at *
  obtain ⟨C1, e1⟩ := P
  dsimp only at hm1 hls ⊢
  refine SPL_y (y_assign rfl) rfl ?_
  refine SPL_nil ?_
  refine thenP_n ?_
  refine SP_seq ?_
  refine SP_region ?_
  refine SPL_y (y_move rfl) rfl ?_
  refine SPL_one rfl (SP1_call (prep_pop k pv uv mv oa C1 s1 0 hm1 (by rw [hls.1]; exact hN) (by rw [hls.top]; exact hls.2.2.2 hht) ⟨by have := hls.2.2.1; omega, by rw [hls.1]; omega, by rw [hls.2.1]; omega⟩) Tryz.call142 rfl rfl (by repeat (first | exact Part.nil _ | (apply Part.cons; (first | exact P0 | exact P1 | exact P2 | exact P3 | exact P4 | exact P5 | exact P6 | exact P7 | exact P8 | exact P9 | exact P10 | exact P11 | exact P12 | exact P13 | exact P14 | exact P15 | exact P16 | exact P17 | exact P18 | exact P19 | exact P20 | exact P21 | exact P22 | exact P23)) | (apply Part.flat; simp only [List.cons_append, List.nil_append]) | (apply Part.nilc))) ?_)
  rintro v post H' ⟨s2, rfl, rfl, hm2⟩ hH
  try simp only [List.cons_append, List.nil_append] at hH
  subst hH
  have hl2 := hls.trans (pop_less C1 0)
  generalize hP2 : pop C1 0 = P2 at *
  obtain ⟨C2, a, ok1⟩ := P2
  dsimp only at hm2 hl2 ⊢
  refine SPL_y (y_move rfl) rfl ?_
  refine SPL_y (y_ext rfl rfl) rfl ?_
  refine SPL_y (y_ext rfl rfl) rfl ?_
  refine SPL_y (y_assign rfl) rfl ?_
  refine SPL_y (y_assign rfl) rfl ?_
  refine SPL_nil ?_
  refine thenP_n ?_
  refine SP_seq ?_
  refine SP_region ?_
  refine SPL_y (y_move rfl) rfl ?_
  refine SPL_y (y_move rfl) rfl ?_
  refine SPL_one rfl (SP1_call (prep_pop k pv uv mv oa C2 s2 a hm2 (by rw [hl2.1]; exact hN) (by rw [hl2.top]; exact hl2.2.2.2 hht) ⟨by have := hl2.2.2.1; omega, by rw [hl2.1]; omega, by rw [hl2.2.1]; omega⟩) Tryz.call142 rfl rfl (by repeat (first | exact Part.nil _ | (apply Part.cons; (first | exact P0 | exact P1 | exact P2 | exact P3 | exact P4 | exact P5 | exact P6 | exact P7 | exact P8 | exact P9 | exact P10 | exact P11 | exact P12 | exact P13 | exact P14 | exact P15 | exact P16 | exact P17 | exact P18 | exact P19 | exact P20 | exact P21 | exact P22 | exact P23)) | (apply Part.flat; simp only [List.cons_append, List.nil_append]) | (apply Part.nilc))) ?_)
  rintro v post H' ⟨s3, rfl, rfl, hm3⟩ hH
  try simp only [List.cons_append, List.nil_append] at hH
  subst hH
  have hl3 := hl2.trans (pop_less C2 a)
  generalize hP3 : pop C2 a = P3 at *
  obtain ⟨C3, b, ok2⟩ := P3
  dsimp only at hm3 hl3 ⊢
  refine SPL_y (y_move rfl) rfl ?_
  refine SPL_y (y_ext rfl rfl) rfl ?_
  refine SPL_y (y_ext rfl rfl) rfl ?_
  refine SPL_y (y_assign rfl) rfl ?_
  refine SPL_y (y_assign rfl) rfl ?_
  refine SPL_nil ?_
  refine thenP_n ?_
  refine SP_seq ?_
  obtain ⟨ta, tc, oc, ca, cc, st, so, sb, cd, cs, rfl, hst, hop, hob, hcd⟩ := hm3
  refine SP_open (pre := [_, _, _, _, _]) (by first | exact P0 | exact P1 | exact P2 | exact P3 | exact P4 | exact P5 | exact P6 | exact P7 | exact P8 | exact P9 | exact P10 | exact P11 | exact P12 | exact P13 | exact P14 | exact P15 | exact P16 | exact P17 | exact P18 | exact P19 | exact P20 | exact P21 | exact P22 | exact P23) ?_
  simp only [List.cons_append, List.nil_append]
  refine SP_region ?_
  refine SPL_y (y_move rfl) rfl ?_
  refine SPL_y (y_move rfl) rfl ?_
  refine SPL_y (y_nil rfl) rfl ?_
  refine SPL_y (y_fa fld_191_2 rfl) rfl ?_
  refine SPL_y (y_load Tryz.isAgg144 rfl (by repeat (first | exact Cell.head rfl | apply Cell.tail))) rfl ?_
  refine SPL_y (y_move rfl) rfl ?_
  refine SPL_one rfl (SP1_slice1 el_144 rfl rfl rfl rfl rfl ?_)
  intro b29
  refine SPL_one rfl (SP1_append el_144 (.inl Tryz.underlying144) rfl rfl hst (by first | exact P0 | exact P1 | exact P2 | exact P3 | exact P4 | exact P5 | exact P6 | exact P7 | exact P8 | exact P9 | exact P10 | exact P11 | exact P12 | exact P13 | exact P14 | exact P15 | exact P16 | exact P17 | exact P18 | exact P19 | exact P20 | exact P21 | exact P22 | exact P23) (Src.of (by repeat (first | exact Cells.all _ | exact Cells.head rfl | apply Cells.tail)) (by rfl)) (by rfl) (by have := hl3.2.2.1; omega) rfl ?_)
  intro a1 c1 st1 h1
  refine SPL_y (y_nil rfl) rfl ?_
  refine SPL_y (y_fa fld_191_2 rfl) rfl ?_
  refine SPL_one rfl (SP1_store Tryz.sizeOf144 rfl rfl rfl (by first | exact U0 | exact U1 | exact U2 | exact U3 | exact U4 | exact U5 | exact U6 | exact U7 | exact U8 | exact U9 | exact U10 | exact U11 | exact U12 | exact U13 | exact U14 | exact U15 | exact U16 | exact U17 | exact U18 | exact U19 | exact U20 | exact U21 | exact U22 | exact U23) (by rfl) ?_)
  refine SPL_nil ?_
  refine thenP_n ?_
  refine SP_seq ?_
  refine SP_seq ?_
  refine SP_region ?_
  refine SPL_y (y_move rfl) rfl ?_
  rcases ok1 with _ | _
  · refine SPL_y (y_not_f rfl) rfl ?_
    refine SPL_y (y_move rfl) rfl ?_
    refine SPL_gn rfl rfl rfl rfl ?_
    refine SPL_gn rfl rfl rfl rfl ?_
    refine SPL_y (y_pick_t rfl rfl) rfl ?_
    refine SPL_nil ?_
    refine thenP_n ?_
    refine SP_cond_t rfl ?_
    refine SP_seq ?_
    refine SP_region ?_
    refine SPL_y (y_assign rfl) rfl ?_
    refine SPL_nil ?_
    refine thenP_n ?_
    refine SP_ret ?_
    refine thenP_ret (bodyP_ret (H' := [List.flatten [blk k 191 [pv, uv, .slice a1 (C3.st.length + 1) c1, .slice oa C3.opn.length oc, .slice ca C3.code.length cc, mv], st1, so, sb, cd]]) (Res1 rfl rfl) (by repeat (first | exact Part.nil _ | (apply Part.cons; (first | exact P0 | exact P1 | exact P2 | exact P3 | exact P4 | exact P5 | exact P6 | exact P7 | exact P8 | exact P9 | exact P10 | exact P11 | exact P12 | exact P13 | exact P14 | exact P15 | exact P16 | exact P17 | exact P18 | exact P19 | exact P20 | exact P21 | exact P22 | exact P23)) | (apply Part.flat; simp only [List.cons_append, List.nil_append]) | (apply Part.nilc))) ?_)
    have e : sel C = ({ C3 with st := C3.st ++ [b] }, 6) := by unfold sel; rw [hP]; dsimp only; rw [hP2]; dsimp only; rw [hP3]; rfl
    rw [e]
    exact ⟨_, rfl, rfl, isChk.intro (by simp) rfl rfl (by simpa [bytesV_append, bytesV] using h1) hop hob hcd⟩
  · refine SPL_y (y_not_t rfl) rfl ?_
    refine SPL_y (y_move rfl) rfl ?_
    refine SPL_gy rfl rfl ?_
    refine SPL_y (y_move rfl) rfl ?_
    rcases ok2 with _ | _
    · refine SPL_gy rfl rfl ?_
      refine SPL_y (y_not_f rfl) rfl ?_
      refine SPL_y (y_pick_f rfl rfl) rfl ?_
      refine SPL_nil ?_
      refine thenP_n ?_
      refine SP_cond_t rfl ?_
      refine SP_seq ?_
      refine SP_region ?_
      refine SPL_y (y_assign rfl) rfl ?_
      refine SPL_nil ?_
      refine thenP_n ?_
      refine SP_ret ?_
      refine thenP_ret (bodyP_ret (H' := [List.flatten [blk k 191 [pv, uv, .slice a1 (C3.st.length + 1) c1, .slice oa C3.opn.length oc, .slice ca C3.code.length cc, mv], st1, so, sb, cd]]) (Res1 rfl rfl) (by repeat (first | exact Part.nil _ | (apply Part.cons; (first | exact P0 | exact P1 | exact P2 | exact P3 | exact P4 | exact P5 | exact P6 | exact P7 | exact P8 | exact P9 | exact P10 | exact P11 | exact P12 | exact P13 | exact P14 | exact P15 | exact P16 | exact P17 | exact P18 | exact P19 | exact P20 | exact P21 | exact P22 | exact P23)) | (apply Part.flat; simp only [List.cons_append, List.nil_append]) | (apply Part.nilc))) ?_)
      have e : sel C = ({ C3 with st := C3.st ++ [b] }, 6) := by unfold sel; rw [hP]; dsimp only; rw [hP2]; dsimp only; rw [hP3]; rfl
      rw [e]
      exact ⟨_, rfl, rfl, isChk.intro (by simp) rfl rfl (by simpa [bytesV_append, bytesV] using h1) hop hob hcd⟩
    · refine SPL_gy rfl rfl ?_
      refine SPL_y (y_not_t rfl) rfl ?_
      refine SPL_y (y_pick_f rfl rfl) rfl ?_
      refine SPL_nil ?_
      refine thenP_n ?_
      refine SP_cond_f rfl ?_
      refine SP_skip ?_
      refine thenP_n ?_
      refine SP_seq ?_
      refine SP_region ?_
      refine SPL_y (y_move rfl) rfl ?_
      refine SPL_y (y_assign rfl) rfl ?_
      refine SPL_nil ?_
      refine thenP_n ?_
      refine SP_ret ?_
      refine bodyP_ret (H' := [List.flatten [blk k 191 [pv, uv, .slice a1 (C3.st.length + 1) c1, .slice oa C3.opn.length oc, .slice ca C3.code.length cc, mv], st1, so, sb, cd]]) (Res1 rfl rfl) (by repeat (first | exact Part.nil _ | (apply Part.cons; (first | exact P0 | exact P1 | exact P2 | exact P3 | exact P4 | exact P5 | exact P6 | exact P7 | exact P8 | exact P9 | exact P10 | exact P11 | exact P12 | exact P13 | exact P14 | exact P15 | exact P16 | exact P17 | exact P18 | exact P19 | exact P20 | exact P21 | exact P22 | exact P23)) | (apply Part.flat; simp only [List.cons_append, List.nil_append]) | (apply Part.nilc))) ?_
      have e : sel C = ({ C3 with st := C3.st ++ [b] }, e1) := by unfold sel; rw [hP]; dsimp only; rw [hP2]; dsimp only; rw [hP3]; rfl
      rw [e]
      exact ⟨_, rfl, rfl, isChk.intro (by simp) rfl rfl (by simpa [bytesV_append, bytesV] using h1) hop hob hcd⟩

theorem prep_call (k pb bf : Nat) (uv mv : Value) (oa : Option Addr) (C : Chk) (s : Seg) (P : Prog) (steps : Int) (sp : Seg) (c : Ins) (hm : isChk k (.pointer (some ⟨pb, 0, none⟩)) uv mv oa C s) (hN : 0 < C.opn.length) (hht : C.top.height ≤ C.st.length) (hz : C.st.length ≤ 100000 ∧ C.opn.length ≤ 100000 ∧ C.code.length ≤ 100000) (hp : isProg pb (some ⟨bf, 0, none⟩) P steps sp) (hpz : ∀ f, f ∈ P.funs → f.params.length ≤ 100 ∧ f.results.length ≤ 100 ∧ f.locals.length ≤ 100) (hc0 : 0 ≤ c.imm) : Spec Tryz.prog 113 [.pointer (some ⟨k, 0, none⟩), .agg (insV c).toArray] [s, sp] (Ret fun v H => ∃ s', v = I (callI P.funs C c).2 ∧ H = [s', sp] ∧ isChk k (.pointer (some ⟨pb, 0, none⟩)) uv mv oa (callI P.funs C c).1 s') := by
  have hm0 := hm
  obtain ⟨ta, tc, oc, ca, cc, st, so, sb, cd, cs, rfl, hst, hop, hob, hcd⟩ := hm
  refine Spec_flat ?_
  simp only [List.cons_append, List.nil_append]
  obtain ⟨fc, sf, sc, fcs, rfl, hfr, hfs⟩ := hp
  refine Spec_openAt [_, _, _] (by first | exact P0 | exact P1 | exact P2 | exact P3 | exact P4 | exact P5 | exact P6 | exact P7 | exact P8 | exact P9 | exact P10 | exact P11 | exact P12 | exact P13 | exact P14 | exact P15 | exact P16 | exact P17 | exact P18 | exact P19 | exact P20 | exact P21 | exact P22 | exact P23) ?_
  simp only [List.cons_append, List.nil_append]
  obtain ⟨l, hl⟩ := Int.eq_ofNat_of_zero_le hc0
  have hins : insV c = [I c.op, I ((l : Nat) : Int), S c.tab] := by rw [insV, hl]
  rw [hins]
  refine Spec_enter Tryz.func113 rfl Tryz.ntmps113 rfl ?_
  show SP _ _ _ _ _ [(0, _), (1, _)] _
  refine SP_seq ?_
  refine SP_region ?_
  refine SPL_one rfl (SP1_box rfl rfl rfl ?_)
  intro b3
  refine SPL_y (y_assign rfl) rfl ?_
  refine SPL_nil ?_
  refine thenP_n ?_
  refine SP_seq ?_
  refine SP_seq ?_
  refine SP_draw 999 [(0, 0), (2, 0), (3, 0), (4, 0), (1, 1), (5, 1), (6, 0), (7, 0), (8, 1), (9, 0), (10, 0)] mixed (by kernel_rfl) (fun _ _ _ _ _ h => h) (Part.refl _) ?_
  refine SPO_p rfl (y_fa fld_87_1 rfl) rfl ?_
  refine SPO_p rfl (y_move rfl) rfl ?_
  refine SPO_p rfl (y_nil rfl) rfl ?_
  refine SPO_p rfl (y_fa fld_191_0 rfl) rfl ?_
  refine SPO_h rfl (y_load Tryz.isAgg3 rfl (by repeat (first | exact Cell.head rfl | apply Cell.tail))) rfl ?_
  refine SPO_h rfl (y_load Tryz.isAgg45 rfl (by repeat (first | exact Cell.head rfl | apply Cell.tail))) rfl ?_
  refine SPO_p rfl (y_nil rfl) rfl ?_
  refine SPO_p rfl (y_fa fld_96_4 rfl) rfl ?_
  refine SPO_h rfl (y_load Tryz.isAgg94 rfl (by repeat (first | exact Cell.head rfl | apply Cell.tail))) rfl ?_
  refine SPO_p rfl (y_len_l Tryz.underlying94 rfl) rfl ?_
  refine SPO_if rfl (y_geq rfl rfl) rfl ?_ ?_
  · intro h1_10
    refine SPO_nil ?_
    refine thenP_n ?_
    refine SP_cond_t rfl ?_
    refine SP_seq ?_
    refine SP_region ?_
    refine SPL_y (y_assign rfl) rfl ?_
    refine SPL_nil ?_
    refine thenP_n ?_
    refine SP_ret ?_
    refine thenP_ret (bodyP_ret (H' := [List.flatten [blk k 191 [.pointer (some ⟨pb, 0, none⟩), uv, .slice ta C.st.length tc, .slice oa C.opn.length oc, .slice ca C.code.length cc, mv], st, so, sb, cd], List.flatten [blk pb 96 [I P.nimp, I P.min, I P.max, I steps, .slice (some ⟨bf, 0, none⟩) P.funs.length fc], sf, sc]]) (Res1 rfl rfl) (by repeat (first | exact Part.nil _ | (apply Part.cons; (first | exact P0 | exact P1 | exact P2 | exact P3 | exact P4 | exact P5 | exact P6 | exact P7 | exact P8 | exact P9 | exact P10 | exact P11 | exact P12 | exact P13 | exact P14 | exact P15 | exact P16 | exact P17 | exact P18 | exact P19 | exact P20 | exact P21 | exact P22 | exact P23)) | (apply Part.flat; simp only [List.cons_append, List.nil_append]) | (apply Part.nilc))) ?_)
    have e : callI P.funs C c = (C, 5) := by unfold callI; rw [if_pos (by rw [hl]; omega)]
    rw [e]
    exact ⟨_, rfl, rfl, isChk.intro rfl rfl rfl hst hop hob hcd⟩
  intro h1_10
  refine SPO_nil ?_
  refine thenP_n ?_
  refine SP_cond_f rfl ?_
  refine SP_skip ?_
  refine thenP_n ?_
  refine SP_seq ?_
  obtain ⟨bf', spf, hbf, hfc, hspf, rfl⟩ := hfr.row (by omega)
  obtain rfl : bf = bf' := by simpa using hbf
  obtain ⟨fl, fka, fkc, fr, f1, fsv, f2, rfl, hfl, rfl, hfk, hfput⟩ := hfs.get (i := l) (by omega)
  obtain ⟨f, hf⟩ : ∃ f, P.funs[l] = f := ⟨_, rfl⟩
  have hfz := hpz f (by rw [← hf]; exact List.getElem_mem _)
  rw [hf] at hfr hfk hfput hfs
  simp only [hf]
  refine SP_draw 25 [(0, 0), (1, 0), (2, 0), (3, 0), (8, 0), (13, 0), (14, 0), (15, 0), (20, 0), (4, 1), (5, 0), (6, 0), (7, 1), (9, 1), (10, 0), (11, 0), (12, 1), (16, 1), (17, 0), (18, 0), (19, 1), (21, 1), (22, 0), (23, 0), (24, 1), (25, 3), (26, 0)] mixed (by kernel_rfl) (fun _ _ _ _ _ h => h) (Part.refl _) ?_
  refine SPO_p rfl (y_move rfl) rfl ?_
  refine SPO_p rfl (y_move rfl) rfl ?_
  refine SPO_p rfl (y_nil rfl) rfl ?_
  refine SPO_p rfl (y_fa fld_191_0 rfl) rfl ?_
  refine SPO_p rfl (y_fa fld_87_1 rfl) rfl ?_
  refine SPO_p rfl (y_move rfl) rfl ?_
  refine SPO_p rfl (y_nil rfl) rfl ?_
  refine SPO_p rfl (y_fa fld_191_0 rfl) rfl ?_
  refine SPO_p rfl (y_fa fld_87_1 rfl) rfl ?_
  refine SPO_h rfl (y_load Tryz.isAgg45 rfl (by repeat (first | exact Cell.head rfl | apply Cell.tail))) rfl ?_
  refine SPO_p rfl (y_nil rfl) rfl ?_
  refine SPO_p rfl (y_fa fld_96_4 rfl) rfl ?_
  refine SPO_h rfl (y_load Tryz.isAgg94 rfl (by repeat (first | exact Cell.head rfl | apply Cell.tail))) rfl ?_
  refine SPO_h rfl (y_load Tryz.isAgg3 rfl (by repeat (first | exact Cell.head rfl | apply Cell.tail))) rfl ?_
  refine SPO_p rfl (y_ia Tryz.underlying94 Tryz.sizeOf108 rfl rfl (by omega)) rfl ?_
  refine SPO_p rfl (y_fa fld_108_0 rfl) rfl ?_
  refine SPO_h rfl (y_load Tryz.isAgg9 rfl (by repeat (first | exact mid_cell (q := 0) (i := l) rfl hfl rfl | apply Cell.tail))) rfl ?_
  refine SPO_h rfl (y_load Tryz.isAgg45 rfl (by repeat (first | exact Cell.head rfl | apply Cell.tail))) rfl ?_
  refine SPO_p rfl (y_nil rfl) rfl ?_
  refine SPO_p rfl (y_fa fld_96_4 rfl) rfl ?_
  refine SPO_h rfl (y_load Tryz.isAgg94 rfl (by repeat (first | exact Cell.head rfl | apply Cell.tail))) rfl ?_
  refine SPO_h rfl (y_load Tryz.isAgg3 rfl (by repeat (first | exact Cell.head rfl | apply Cell.tail))) rfl ?_
  refine SPO_p rfl (y_ia Tryz.underlying94 Tryz.sizeOf108 rfl rfl (by omega)) rfl ?_
  refine SPO_p rfl (y_fa fld_108_1 rfl) rfl ?_
  refine SPO_h rfl (y_load Tryz.isAgg9 rfl (by repeat (first | exact mid_cell (q := 1) (i := l) rfl hfl rfl | apply Cell.tail))) rfl ?_
  refine SPO_z (k := 0) rfl rfl (SP1_call (prep_swap k (.pointer (some ⟨pb, 0, none⟩)) uv mv oa C _ f.params f.results hm0 hN hht ⟨by omega, by omega, by omega⟩ (by omega) (by omega)) Tryz.call122 rfl rfl (by repeat (first | exact Part.nil _ | (apply Part.cons; (first | exact P0 | exact P1 | exact P2 | exact P3 | exact P4 | exact P5 | exact P6 | exact P7 | exact P8 | exact P9 | exact P10 | exact P11 | exact P12 | exact P13 | exact P14 | exact P15 | exact P16 | exact P17 | exact P18 | exact P19 | exact P20 | exact P21 | exact P22 | exact P23)) | (apply Part.flat; simp only [List.cons_append, List.nil_append]) | (apply Part.nilc))) ?_)
  rintro v post H' ⟨s3, rfl, rfl, hm3⟩ hH
  try simp only [List.cons_append, List.nil_append] at hH
  subst hH
  refine SPO_p rfl (y_assign rfl) rfl ?_
  refine SPO_nil ?_
  refine thenP_n ?_
  refine SP_ret ?_
  refine bodyP_ret (H' := [s3, List.flatten [blk pb 96 [I P.nimp, I P.min, I P.max, I steps, .slice (some ⟨bf, 0, none⟩) P.funs.length fc], blk bf 108 (fl ++ [S f.params, S f.results, S f.locals, .slice fka f.code.length fkc] ++ fr ++ spf), List.flatten [f1, fsv, f2]]]) (Res1 rfl rfl) (by repeat (first | exact Part.nil _ | (apply Part.cons; (first | exact P0 | exact P1 | exact P2 | exact P3 | exact P4 | exact P5 | exact P6 | exact P7 | exact P8 | exact P9 | exact P10 | exact P11 | exact P12 | exact P13 | exact P14 | exact P15 | exact P16 | exact P17 | exact P18 | exact P19 | exact P20 | exact P21 | exact P22 | exact P23)) | (apply Part.flat; simp only [List.cons_append, List.nil_append]) | (apply Part.nilc))) ?_
  have e : callI P.funs C c = swap C f.params f.results := by unfold callI; rw [if_neg (by rw [hl]; omega)]; rw [hl, Int.toNat_natCast, List.getElem?_eq_getElem (show l < P.funs.length by omega)]; dsimp only; rw [hf]
  rw [e]
  exact ⟨_, rfl, rfl, hm3⟩

theorem prep_local (k pb bf : Nat) (mv : Value) (oa : Option Addr) (C : Chk) (s : Seg) (P : Prog) (steps : Int) (sp : Seg) (c : Ins) (fi : Nat) (u : Fun) (hm : isChk k (.pointer (some ⟨pb, 0, none⟩)) (.pointer (some ⟨bf, 0 + ((fi : Nat) : Int).toNat * 4, none⟩)) mv oa C s) (hN : 0 < C.opn.length) (hht : C.top.height ≤ C.st.length) (hz : C.st.length ≤ 100000 ∧ C.opn.length ≤ 100000 ∧ C.code.length ≤ 100000) (hp : isProg pb (some ⟨bf, 0, none⟩) P steps sp) (hpz : ∀ f, f ∈ P.funs → f.params.length ≤ 100 ∧ f.results.length ≤ 100 ∧ f.locals.length ≤ 100) (hc0 : 0 ≤ c.imm) (hfi : P.funs[fi]? = some u) : Spec Tryz.prog 115 [.pointer (some ⟨k, 0, none⟩), .agg (insV c).toArray] [s, sp] (Ret fun v H => ∃ s', v = I (localI u C c).2 ∧ H = [s', sp] ∧ isChk k (.pointer (some ⟨pb, 0, none⟩)) (.pointer (some ⟨bf, 0 + ((fi : Nat) : Int).toNat * 4, none⟩)) mv oa (localI u C c).1 s') := by
  have hm0 := hm
  obtain ⟨ta, tc, oc, ca, cc, st, so, sb, cd, cs, rfl, hst, hop, hob, hcd⟩ := hm
  refine Spec_flat ?_
  simp only [List.cons_append, List.nil_append]
  obtain ⟨fc, sf, sc, fcs, rfl, hfr, hfs⟩ := hp
  refine Spec_openAt [_, _, _] (by first | exact P0 | exact P1 | exact P2 | exact P3 | exact P4 | exact P5 | exact P6 | exact P7 | exact P8 | exact P9 | exact P10 | exact P11 | exact P12 | exact P13 | exact P14 | exact P15 | exact P16 | exact P17 | exact P18 | exact P19 | exact P20 | exact P21 | exact P22 | exact P23) ?_
  simp only [List.cons_append, List.nil_append]
  obtain ⟨l, hl⟩ := Int.eq_ofNat_of_zero_le hc0
  have hins : insV c = [I c.op, I ((l : Nat) : Int), S c.tab] := by rw [insV, hl]
  rw [hins]
  have hfil := (List.getElem?_eq_some_iff.1 hfi).1
  obtain ⟨bf', spf, hbf, hfc, hspf, rfl⟩ := hfr.row (by omega)
  obtain rfl : bf = bf' := by simpa using hbf
  obtain ⟨fl, fka, fkc, fr, f1, fsv, f2, rfl, hfl, rfl, hfk, hfput⟩ := hfs.get (i := fi) hfil
  obtain ⟨f, hf⟩ : ∃ f, P.funs[fi] = f := ⟨_, rfl⟩
  have hfz := hpz f (by rw [← hf]; exact List.getElem_mem _)
  rw [hf] at hfr hfk hfput hfs
  simp only [hf]
  obtain rfl : f = u := by rw [List.getElem?_eq_getElem hfil, hf] at hfi; simpa using hfi
  obtain ⟨al, hal⟩ : ∃ x, f.params ++ f.locals = x := ⟨_, rfl⟩
  have hall : al.length ≤ 200 := by rw [← hal]; simp; omega
  refine Spec_enter Tryz.func115 rfl Tryz.ntmps115 rfl ?_
  show SP _ _ _ _ _ [(0, _), (1, _)] _
  refine SP_seq ?_
  refine SP_region ?_
  refine SPL_one rfl (SP1_box rfl rfl rfl ?_)
  intro b3
  refine SPL_y (y_assign rfl) rfl ?_
  refine SPL_nil ?_
  refine thenP_n ?_
  refine SP_seq ?_
  refine SP_draw 999 [(0, 0), (1, 0), (2, 0), (7, 0), (8, 0), (9, 0), (3, 1), (4, 0), (5, 0), (6, 1), (10, 1), (11, 0), (12, 0), (13, 1), (14, 0), (15, 0)] mixed (by kernel_rfl) (fun _ _ _ _ _ h => h) (Part.refl _) ?_
  refine SPO_p rfl (y_move rfl) rfl ?_
  refine SPO_p rfl (y_nil rfl) rfl ?_
  refine SPO_p rfl (y_fa fld_191_1 rfl) rfl ?_
  refine SPO_p rfl (y_move rfl) rfl ?_
  refine SPO_p rfl (y_nil rfl) rfl ?_
  refine SPO_p rfl (y_fa fld_191_1 rfl) rfl ?_
  refine SPO_h rfl (y_load Tryz.isAgg105 rfl (by repeat (first | exact Cell.head rfl | apply Cell.tail))) rfl ?_
  refine SPO_p rfl (y_nil rfl) rfl ?_
  refine SPO_p rfl (y_fa fld_108_0 rfl) rfl ?_
  refine SPO_h rfl (y_load Tryz.isAgg9 rfl (by repeat (first | exact mid_cell (q := 0) (i := fi) rfl hfl rfl | apply Cell.tail))) rfl ?_
  refine SPO_h rfl (y_load Tryz.isAgg105 rfl (by repeat (first | exact Cell.head rfl | apply Cell.tail))) rfl ?_
  refine SPO_p rfl (y_nil rfl) rfl ?_
  refine SPO_p rfl (y_fa fld_108_2 rfl) rfl ?_
  refine SPO_h rfl (y_load Tryz.isAgg9 rfl (by repeat (first | exact mid_cell (q := 2) (i := fi) rfl hfl rfl | apply Cell.tail))) rfl ?_
  refine SPO_p rfl (y_cat rfl rfl (by omega)) rfl ?_
  rw [hal]
  refine SPO_p rfl (y_assign rfl) rfl ?_
  refine SPO_nil ?_
  refine thenP_n ?_
  refine SP_seq ?_
  refine SP_seq ?_
  refine SP_region ?_
  refine SPL_y (y_fa fld_87_1 rfl) rfl ?_
  refine SPL_y (y_load Tryz.isAgg3 rfl (by repeat (first | exact Cell.head rfl | apply Cell.tail))) rfl ?_
  refine SPL_y (y_move rfl) rfl ?_
  refine SPL_y (y_len_s Tryz.underlying9 rfl) rfl ?_
  refine SPL_if (y_geq rfl rfl) rfl ?_ ?_
  · intro h2_4
    refine SPL_nil ?_
    refine thenP_n ?_
    refine SP_cond_t rfl ?_
    refine SP_seq ?_
    refine SP_region ?_
    refine SPL_y (y_assign rfl) rfl ?_
    refine SPL_nil ?_
    refine thenP_n ?_
    refine SP_ret ?_
    refine thenP_ret (bodyP_ret (H' := [List.flatten [blk k 191 [.pointer (some ⟨pb, 0, none⟩), .pointer (some ⟨bf, 0 + ((fi : Nat) : Int).toNat * 4, none⟩), .slice ta C.st.length tc, .slice oa C.opn.length oc, .slice ca C.code.length cc, mv], st, so, sb, cd], List.flatten [blk pb 96 [I P.nimp, I P.min, I P.max, I steps, .slice (some ⟨bf, 0, none⟩) P.funs.length fc], blk bf 108 (fl ++ [S f.params, S f.results, S f.locals, .slice fka f.code.length fkc] ++ fr ++ spf), List.flatten [f1, fsv, f2]]]) (Res1 rfl rfl) (by repeat (first | exact Part.nil _ | (apply Part.cons; (first | exact P0 | exact P1 | exact P2 | exact P3 | exact P4 | exact P5 | exact P6 | exact P7 | exact P8 | exact P9 | exact P10 | exact P11 | exact P12 | exact P13 | exact P14 | exact P15 | exact P16 | exact P17 | exact P18 | exact P19 | exact P20 | exact P21 | exact P22 | exact P23)) | (apply Part.flat; simp only [List.cons_append, List.nil_append]) | (apply Part.nilc))) ?_)
    have e : localI f C c = (C, 5) := by unfold localI; rw [hal, if_pos (by rw [hl]; omega)]
    rw [e]
    exact ⟨_, rfl, rfl, isChk.intro rfl rfl rfl hst hop hob hcd⟩
  intro h2_4
  refine SPL_nil ?_
  refine thenP_n ?_
  refine SP_cond_f rfl ?_
  refine SP_skip ?_
  refine thenP_n ?_
  refine SP_seq ?_
  refine SP_seq ?_
  refine SP_region ?_
  refine SPL_y (y_fa fld_87_0 rfl) rfl ?_
  refine SPL_y (y_load Tryz.isAgg3 rfl (by repeat (first | exact Cell.head rfl | apply Cell.tail))) rfl ?_
  refine SPL_if (y_eql rfl rfl) rfl ?_ ?_
  · intro h4_2
    refine SPL_nil ?_
    refine thenP_n ?_
    refine SP_cond_t rfl ?_
    refine SP_seq ?_
    refine SP_region ?_
    refine SPL_y (y_move rfl) rfl ?_
    refine SPL_y (y_move rfl) rfl ?_
    refine SPL_y (y_fa fld_87_1 rfl) rfl ?_
    refine SPL_y (y_load Tryz.isAgg3 rfl (by repeat (first | exact Cell.head rfl | apply Cell.tail))) rfl ?_
    refine SPL_y (y_fa fld_87_1 rfl) rfl ?_
    refine SPL_y (y_load Tryz.isAgg3 rfl (by repeat (first | exact Cell.head rfl | apply Cell.tail))) rfl ?_
    refine SPL_y (y_add rfl rfl (by omega)) rfl ?_
    refine SPL_y (y_str_lh Tryz.underlying9 rfl rfl rfl (by omega)) rfl ?_
    refine SPL_one rfl (SP1_call (prep_pops k (.pointer (some ⟨pb, 0, none⟩)) (.pointer (some ⟨bf, 0 + ((fi : Nat) : Int).toNat * 4, none⟩)) mv oa C _ ((al.take ((l : Int) + 1).toNat).drop ((l : Nat) : Int).toNat) hm0 hN hht ⟨by omega, by omega, by omega⟩ (by simp; omega)) Tryz.call112 rfl rfl (by repeat (first | exact Part.nil _ | (apply Part.cons; (first | exact P0 | exact P1 | exact P2 | exact P3 | exact P4 | exact P5 | exact P6 | exact P7 | exact P8 | exact P9 | exact P10 | exact P11 | exact P12 | exact P13 | exact P14 | exact P15 | exact P16 | exact P17 | exact P18 | exact P19 | exact P20 | exact P21 | exact P22 | exact P23)) | (apply Part.flat; simp only [List.cons_append, List.nil_append]) | (apply Part.nilc))) ?_)
    rintro v post H' ⟨s3, rfl, rfl, hm3⟩ hH
    try simp only [List.cons_append, List.nil_append] at hH
    subst hH
    refine SPL_y (y_assign rfl) rfl ?_
    refine SPL_nil ?_
    refine thenP_n ?_
    refine SP_ret ?_
    refine thenP_ret (bodyP_ret (H' := [s3, List.flatten [blk pb 96 [I P.nimp, I P.min, I P.max, I steps, .slice (some ⟨bf, 0, none⟩) P.funs.length fc], blk bf 108 (fl ++ [S f.params, S f.results, S f.locals, .slice fka f.code.length fkc] ++ fr ++ spf), List.flatten [f1, fsv, f2]]]) (Res1 rfl rfl) (by repeat (first | exact Part.nil _ | (apply Part.cons; (first | exact P0 | exact P1 | exact P2 | exact P3 | exact P4 | exact P5 | exact P6 | exact P7 | exact P8 | exact P9 | exact P10 | exact P11 | exact P12 | exact P13 | exact P14 | exact P15 | exact P16 | exact P17 | exact P18 | exact P19 | exact P20 | exact P21 | exact P22 | exact P23)) | (apply Part.flat; simp only [List.cons_append, List.nil_append]) | (apply Part.nilc))) ?_)
    have e : localI f C c = pops C ((al.take ((l : Int) + 1).toNat).drop ((l : Nat) : Int).toNat) := by unfold localI; rw [hal, if_neg (by rw [hl]; omega)]; rw [hl]; dsimp only; rw [if_pos h4_2]; rfl
    rw [e]
    exact ⟨_, rfl, rfl, hm3⟩
  intro h4_2
  refine SPL_nil ?_
  refine thenP_n ?_
  refine SP_cond_f rfl ?_
  refine SP_skip ?_
  refine thenP_n ?_
  refine SP_seq ?_
  refine SP_region ?_
  refine SPL_y (y_move rfl) rfl ?_
  refine SPL_y (y_move rfl) rfl ?_
  refine SPL_y (y_fa fld_87_1 rfl) rfl ?_
  refine SPL_y (y_load Tryz.isAgg3 rfl (by repeat (first | exact Cell.head rfl | apply Cell.tail))) rfl ?_
  refine SPL_y (y_fa fld_87_1 rfl) rfl ?_
  refine SPL_y (y_load Tryz.isAgg3 rfl (by repeat (first | exact Cell.head rfl | apply Cell.tail))) rfl ?_
  refine SPL_y (y_add rfl rfl (by omega)) rfl ?_
  refine SPL_y (y_str_lh Tryz.underlying9 rfl rfl rfl (by omega)) rfl ?_
  refine SPL_one rfl (SP1_call (prep_swap k (.pointer (some ⟨pb, 0, none⟩)) (.pointer (some ⟨bf, 0 + ((fi : Nat) : Int).toNat * 4, none⟩)) mv oa C _ [] ((al.take ((l : Int) + 1).toNat).drop ((l : Nat) : Int).toNat) hm0 hN hht ⟨by omega, by omega, by omega⟩ (by simp) (by simp; omega)) Tryz.call122 rfl rfl (by repeat (first | exact Part.nil _ | (apply Part.cons; (first | exact P0 | exact P1 | exact P2 | exact P3 | exact P4 | exact P5 | exact P6 | exact P7 | exact P8 | exact P9 | exact P10 | exact P11 | exact P12 | exact P13 | exact P14 | exact P15 | exact P16 | exact P17 | exact P18 | exact P19 | exact P20 | exact P21 | exact P22 | exact P23)) | (apply Part.flat; simp only [List.cons_append, List.nil_append]) | (apply Part.nilc))) ?_)
  rintro v post H' ⟨s3, rfl, rfl, hm3⟩ hH
  try simp only [List.cons_append, List.nil_append] at hH
  subst hH
  refine SPL_y (y_assign rfl) rfl ?_
  refine SPL_nil ?_
  refine thenP_n ?_
  refine SP_ret ?_
  refine bodyP_ret (H' := [s3, List.flatten [blk pb 96 [I P.nimp, I P.min, I P.max, I steps, .slice (some ⟨bf, 0, none⟩) P.funs.length fc], blk bf 108 (fl ++ [S f.params, S f.results, S f.locals, .slice fka f.code.length fkc] ++ fr ++ spf), List.flatten [f1, fsv, f2]]]) (Res1 rfl rfl) (by repeat (first | exact Part.nil _ | (apply Part.cons; (first | exact P0 | exact P1 | exact P2 | exact P3 | exact P4 | exact P5 | exact P6 | exact P7 | exact P8 | exact P9 | exact P10 | exact P11 | exact P12 | exact P13 | exact P14 | exact P15 | exact P16 | exact P17 | exact P18 | exact P19 | exact P20 | exact P21 | exact P22 | exact P23)) | (apply Part.flat; simp only [List.cons_append, List.nil_append]) | (apply Part.nilc))) ?_
  have e : localI f C c = swap C [] ((al.take ((l : Int) + 1).toNat).drop ((l : Nat) : Int).toNat) := by unfold localI; rw [hal, if_neg (by rw [hl]; omega)]; rw [hl]; dsimp only; rw [if_neg h4_2]; rfl
  rw [e]
  exact ⟨_, rfl, rfl, hm3⟩

end Go.Sl
