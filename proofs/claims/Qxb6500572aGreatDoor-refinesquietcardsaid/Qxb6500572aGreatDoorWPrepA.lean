/- Walks: package prep, the operand stack (made by program out of short notes) -/
import Derived.Test.Qxb6500572aGreatDoorFacts
import Derived.Test.Qxb6500572aGreatDoorPPrep
namespace Go.Sl
open Go Go.Wl Go.Proofs
set_option maxRecDepth 100000
set_option linter.unusedVariables false
set_option linter.unusedSimpArgs false
theorem u8_ne {a b : UInt8} : ((a.toNat : Int) = (b.toNat : Int)) ↔ a = b := by
  constructor
  · intro h; apply UInt8.toNat_inj.1; omega
  · intro h; rw [h]
theorem u8_z {a : UInt8} : ((a.toNat : Int) = 0) ↔ a = 0 := by
  have := u8_ne (a := a) (b := 0)
  simpa using this

theorem prep_pop (k : Nat) (pv uv mv : Value) (oa : Option Addr) (C : Chk) (s : Seg) (want : UInt8) (hm : isChk k pv uv mv oa C s) (hN : 0 < C.opn.length) (hht : C.top.height ≤ C.st.length) (hz : C.st.length ≤ 1000000 ∧ C.opn.length ≤ 1000000 ∧ C.code.length ≤ 1000000) : Spec Tryz.prog 142 [.pointer (some ⟨k, 0, none⟩), .int .u8 want.toNat] [s] (Ret fun v H => ∃ s', v = .tuple #[.int .u8 (pop C want).2.1.toNat, .bool (pop C want).2.2] ∧ H = [s'] ∧ isChk k pv uv mv oa (pop C want).1 s') := by
  obtain ⟨ta, tc, oc, ca, cc, st, so, sb, cd, cs, rfl, hst, hop, hob, hcd⟩ := hm
  refine Spec_flat ?_
  simp only [List.cons_append, List.nil_append]
  refine Spec_enter Tryz.func142 rfl Tryz.ntmps142 rfl ?_
  show SP _ _ _ _ _ [(0, _), (1, _)] _
  refine SP_seq ?_
  refine SP_region ?_
  refine SPL_y (y_assign rfl) rfl ?_
  refine SPL_y (y_assign rfl) rfl ?_
  refine SPL_nil ?_
  refine thenP_n ?_
  refine SP_seq ?_
  obtain ⟨bo, spo, rfl, hoc, hspo, rfl⟩ := hop.row (by omega)
  obtain ⟨la, c7, lb, s1, sv, s2, rfl, hla, rfl, hbk, hpre, hput⟩ := hob.get (i := C.opn.length - 1) (by omega)
  obtain ⟨b, hb⟩ : ∃ b, C.opn[C.opn.length - 1] = b := ⟨_, rfl⟩
  rw [hb] at hbk
  have htop : C.top = b := by rw [top_eq hN, hb]
  rw [htop] at hht
  obtain ⟨fa, wa, wc, vs, sa, sw, sh, rfl, rfl, halt, hwa, hho⟩ := hbk
  refine SP_draw 999 [(0, 0), (1, 0), (2, 0), (4, 0), (5, 0), (6, 0), (3, 1), (7, 1), (8, 0), (9, 0), (10, 0), (11, 0)] mixed (by kernel_rfl) (fun _ _ _ _ _ h => h) (Part.refl _) ?_
  refine SPO_p rfl (y_move rfl) rfl ?_
  refine SPO_p rfl (y_nil rfl) rfl ?_
  refine SPO_p rfl (y_fa fld_191_3 rfl) rfl ?_
  refine SPO_p rfl (y_move rfl) rfl ?_
  refine SPO_p rfl (y_nil rfl) rfl ?_
  refine SPO_p rfl (y_fa fld_191_3 rfl) rfl ?_
  refine SPO_h rfl (y_load Tryz.isAgg188 rfl (by repeat (first | exact Cell.head rfl | apply Cell.tail))) rfl ?_
  refine SPO_h rfl (y_load Tryz.isAgg188 rfl (by repeat (first | exact Cell.head rfl | apply Cell.tail))) rfl ?_
  refine SPO_p rfl (y_len_l Tryz.underlying188 rfl) rfl ?_
  refine SPO_p rfl (y_sub rfl rfl (by omega)) rfl ?_
  refine SPO_p rfl (y_ia Tryz.underlying188 Tryz.sizeOf230 rfl rfl (by omega)) rfl ?_
  refine SPO_p rfl (y_assign rfl) rfl ?_
  refine SPO_nil ?_
  refine thenP_n ?_
  refine SP_seq ?_
  refine SP_seq ?_
  refine SP_draw 999 [(0, 0), (1, 0), (2, 0), (5, 0), (6, 0), (7, 0), (3, 1), (4, 0), (8, 1), (9, 0)] mixed (by kernel_rfl) (fun _ _ _ _ _ h => h) (Part.refl _) ?_
  refine SPO_p rfl (y_move rfl) rfl ?_
  refine SPO_p rfl (y_nil rfl) rfl ?_
  refine SPO_p rfl (y_fa fld_191_2 rfl) rfl ?_
  refine SPO_p rfl (y_move rfl) rfl ?_
  refine SPO_p rfl (y_nil rfl) rfl ?_
  refine SPO_p rfl (y_fa fld_230_2 rfl) rfl ?_
  refine SPO_h rfl (y_load Tryz.isAgg144 rfl (by repeat (first | exact Cell.head rfl | apply Cell.tail))) rfl ?_
  refine SPO_p rfl (y_len_l Tryz.underlying144 rfl) rfl ?_
  refine SPO_h rfl (y_load Tryz.isAgg3 rfl (by repeat (first | exact mid_cell (q := 2) (i := C.opn.length - 1) (by omega) hla rfl | apply Cell.tail))) rfl ?_
  refine SPO_if rfl (y_eql rfl rfl) rfl ?_ ?_
  · intro h2_9
    refine SPO_nil ?_
    refine thenP_n ?_
    refine SP_cond_t rfl ?_
    refine SP_seq ?_
    refine SP_draw 999 [(0, 0), (1, 0), (2, 0), (3, 0), (5, 0), (4, 1), (6, 0)] mixed (by kernel_rfl) (fun _ _ _ _ _ h => h) (Part.refl _) ?_
    refine SPO_p rfl (y_move rfl) rfl ?_
    refine SPO_p rfl (y_move rfl) rfl ?_
    refine SPO_p rfl (y_nil rfl) rfl ?_
    refine SPO_p rfl (y_fa fld_230_4 rfl) rfl ?_
    refine SPO_p rfl (y_assign rfl) rfl ?_
    refine SPO_h rfl (y_load Tryz.isAgg4 rfl (by repeat (first | exact mid_cell (q := 4) (i := C.opn.length - 1) (by omega) hla rfl | apply Cell.tail))) rfl ?_
    refine SPO_p rfl (y_assign rfl) rfl ?_
    refine SPO_nil ?_
    refine thenP_n ?_
    refine SP_ret ?_
    refine thenP_ret (bodyP_ret (H' := [List.flatten [blk k 191 [pv, uv, .slice ta C.st.length tc, .slice (some ⟨bo, 0, none⟩) C.opn.length oc, .slice ca C.code.length cc, mv], st, blk bo 230 (la ++ [S b.res, S b.carry, I b.height, I b.head, .bool b.dead, fa, .slice wa b.wait.length wc] ++ lb ++ spo), List.flatten [s1, List.flatten [sa, sw, sh], s2], cd]]) (Res2 rfl rfl rfl) (by repeat (first | exact Part.nil _ | (apply Part.cons; (first | exact P0 | exact P1 | exact P2 | exact P3 | exact P4 | exact P5 | exact P6 | exact P7 | exact P8 | exact P9 | exact P10 | exact P11 | exact P12 | exact P13 | exact P14 | exact P15 | exact P16 | exact P17 | exact P18 | exact P19 | exact P20 | exact P21 | exact P22 | exact P23)) | (apply Part.flat; simp only [List.cons_append, List.nil_append]) | (apply Part.nilc))) ?_)
    have e : pop C want = (C, want, b.dead) := by unfold pop; rw [htop, if_pos (by omega)]
    rw [e]
    exact ⟨_, rfl, rfl, ⟨ta, tc, oc, ca, cc, st, _, _, cd, _, rfl, hst, hop, hob, hcd⟩⟩
  intro h2_9
  refine SPO_nil ?_
  refine thenP_n ?_
  refine SP_cond_f rfl ?_
  refine SP_skip ?_
  refine thenP_n ?_
  refine SP_seq ?_
  have hsl : C.st.length - 1 < C.st.length := by omega
  have hgd : C.st.getD (C.st.length - 1) 0 = C.st[C.st.length - 1] := by rw [List.getD_eq_getElem?_getD, List.getElem?_eq_getElem hsl]; rfl
  have hnl : (C.st.take (C.st.length - 1)).length = ((C.st.length : Int) - 1).toNat := by rw [List.length_take]; omega
  have hct : Arr 5 1 ta ((C.st.length : Int) - 1).toNat tc (bytesV (C.st.take (C.st.length - 1))) st := by
    have := hst.cut (j := ((C.st.length : Int) - 1).toNat) (by omega)
    rw [Nat.mul_one, bytesV_take] at this
    rwa [show C.st.length - 1 = ((C.st.length : Int) - 1).toNat by omega]
  obtain ⟨bt, spt, rfl, htc, hspt, rfl⟩ := hst.row (by omega)
  refine SP_draw 999 [(0, 0), (1, 0), (2, 0), (4, 0), (5, 0), (6, 0), (3, 1), (7, 1), (8, 0), (9, 0), (10, 0), (11, 1), (12, 0)] mixed (by kernel_rfl) (fun _ _ _ _ _ h => h) (Part.refl _) ?_
  refine SPO_p rfl (y_move rfl) rfl ?_
  refine SPO_p rfl (y_nil rfl) rfl ?_
  refine SPO_p rfl (y_fa fld_191_2 rfl) rfl ?_
  refine SPO_p rfl (y_move rfl) rfl ?_
  refine SPO_p rfl (y_nil rfl) rfl ?_
  refine SPO_p rfl (y_fa fld_191_2 rfl) rfl ?_
  refine SPO_h rfl (y_load Tryz.isAgg144 rfl (by repeat (first | exact Cell.head rfl | apply Cell.tail))) rfl ?_
  refine SPO_h rfl (y_load Tryz.isAgg144 rfl (by repeat (first | exact Cell.head rfl | apply Cell.tail))) rfl ?_
  refine SPO_p rfl (y_len_l Tryz.underlying144 rfl) rfl ?_
  refine SPO_p rfl (y_sub rfl rfl (by omega)) rfl ?_
  refine SPO_p rfl (y_ia Tryz.underlying144 Tryz.sizeOf5 rfl rfl (by omega)) rfl ?_
  refine SPO_h rfl (y_load Tryz.isAgg5 rfl (by repeat (first | exact Cell.head (row1 (i := C.st.length - 1) (by omega) hsl) | apply Cell.tail))) rfl ?_
  refine SPO_p rfl (y_assign rfl) rfl ?_
  refine SPO_nil ?_
  refine thenP_n ?_
  refine SP_seq ?_
  refine SP_draw 14 [(0, 0), (1, 0), (2, 0), (3, 0), (5, 0), (6, 0), (7, 0), (4, 1), (8, 1), (9, 0), (10, 0), (11, 0), (12, 0), (13, 0), (14, 3)] mixed (by kernel_rfl) (fun _ _ _ _ _ h => h) (Part.refl _) ?_
  refine SPO_p rfl (y_move rfl) rfl ?_
  refine SPO_p rfl (y_move rfl) rfl ?_
  refine SPO_p rfl (y_nil rfl) rfl ?_
  refine SPO_p rfl (y_fa fld_191_2 rfl) rfl ?_
  refine SPO_p rfl (y_move rfl) rfl ?_
  refine SPO_p rfl (y_nil rfl) rfl ?_
  refine SPO_p rfl (y_fa fld_191_2 rfl) rfl ?_
  refine SPO_h rfl (y_load Tryz.isAgg144 rfl (by repeat (first | exact Cell.head rfl | apply Cell.tail))) rfl ?_
  refine SPO_h rfl (y_load Tryz.isAgg144 rfl (by repeat (first | exact Cell.head rfl | apply Cell.tail))) rfl ?_
  refine SPO_p rfl (y_len_l Tryz.underlying144 rfl) rfl ?_
  refine SPO_p rfl (y_sub rfl rfl (by omega)) rfl ?_
  refine SPO_p rfl (y_cut hst Tryz.underlying144 Tryz.sizeOf5 rfl rfl (by omega)) rfl ?_
  refine SPO_p rfl (y_nil rfl) rfl ?_
  refine SPO_p rfl (y_fa fld_191_2 rfl) rfl ?_
  refine SPO_z (k := 0) rfl rfl (SP1_store Tryz.sizeOf144 rfl rfl rfl (by first | exact U0 | exact U1 | exact U2 | exact U3 | exact U4 | exact U5 | exact U6 | exact U7 | exact U8 | exact U9 | exact U10 | exact U11 | exact U12 | exact U13 | exact U14 | exact U15 | exact U16 | exact U17 | exact U18 | exact U19 | exact U20 | exact U21 | exact U22 | exact U23) (by rfl) ?_)
  refine SPO_nil ?_
  refine thenP_n ?_
  refine SP_seq ?_
  refine SP_seq ?_
  refine SP_region ?_
  refine SPL_y (y_move rfl) rfl ?_
  refine SPL_if (y_eql rfl rfl) rfl ?_ ?_
  · intro h6_1
    refine SPL_nil ?_
    refine thenP_n ?_
    refine SP_cond_t rfl ?_
    refine SP_seq ?_
    refine SP_region ?_
    refine SPL_y (y_move rfl) rfl ?_
    refine SPL_y (y_assign rfl) rfl ?_
    refine SPL_y (y_assign rfl) rfl ?_
    refine SPL_nil ?_
    refine thenP_n ?_
    refine SP_ret ?_
    refine thenP_ret (bodyP_ret (H' := [List.flatten [blk k 191 [pv, uv, .slice (some ⟨bt, 0, none⟩) ((C.st.length : Int) - 1).toNat tc, .slice (some ⟨bo, 0, none⟩) C.opn.length oc, .slice ca C.code.length cc, mv], blk bt 5 (bytesV C.st ++ spt), blk bo 230 (la ++ [S b.res, S b.carry, I b.height, I b.head, .bool b.dead, fa, .slice wa b.wait.length wc] ++ lb ++ spo), List.flatten [s1, List.flatten [sa, sw, sh], s2], cd]]) (Res2 rfl rfl rfl) (by repeat (first | exact Part.nil _ | (apply Part.cons; (first | exact P0 | exact P1 | exact P2 | exact P3 | exact P4 | exact P5 | exact P6 | exact P7 | exact P8 | exact P9 | exact P10 | exact P11 | exact P12 | exact P13 | exact P14 | exact P15 | exact P16 | exact P17 | exact P18 | exact P19 | exact P20 | exact P21 | exact P22 | exact P23)) | (apply Part.flat; simp only [List.cons_append, List.nil_append]) | (apply Part.nilc))) ?_)
    have e : pop C want = ({ C with st := C.st.take (C.st.length - 1) }, want, true) := by unfold pop; rw [htop, if_neg (by omega), hgd, if_pos (u8_z.1 h6_1)]
    rw [e]
    exact ⟨_, rfl, rfl, ⟨some ⟨bt, 0, none⟩, tc, oc, ca, cc, _, _, _, cd, _, by dsimp only; rw [hnl], by dsimp only; rw [hnl]; exact hct, hop, hob, hcd⟩⟩
  intro h6_1
  refine SPL_nil ?_
  refine thenP_n ?_
  refine SP_cond_f rfl ?_
  refine SP_skip ?_
  refine thenP_n ?_
  refine SP_seq ?_
  refine SP_region ?_
  refine SPL_y (y_move rfl) rfl ?_
  refine SPL_y (y_move rfl) rfl ?_
  refine SPL_if (y_eql rfl rfl) rfl ?_ ?_
  · intro h8_2
    refine SPL_y (y_move rfl) rfl ?_
    refine SPL_gn rfl rfl rfl rfl ?_
    refine SPL_gn rfl rfl rfl rfl ?_
    refine SPL_gn rfl rfl rfl rfl ?_
    refine SPL_y (y_pick_t rfl rfl) rfl ?_
    refine SPL_y (y_assign rfl) rfl ?_
    refine SPL_y (y_assign rfl) rfl ?_
    refine SPL_nil ?_
    refine thenP_n ?_
    refine SP_ret ?_
    refine bodyP_ret (H' := [List.flatten [blk k 191 [pv, uv, .slice (some ⟨bt, 0, none⟩) ((C.st.length : Int) - 1).toNat tc, .slice (some ⟨bo, 0, none⟩) C.opn.length oc, .slice ca C.code.length cc, mv], blk bt 5 (bytesV C.st ++ spt), blk bo 230 (la ++ [S b.res, S b.carry, I b.height, I b.head, .bool b.dead, fa, .slice wa b.wait.length wc] ++ lb ++ spo), List.flatten [s1, List.flatten [sa, sw, sh], s2], cd]]) (Res2 rfl rfl rfl) (by repeat (first | exact Part.nil _ | (apply Part.cons; (first | exact P0 | exact P1 | exact P2 | exact P3 | exact P4 | exact P5 | exact P6 | exact P7 | exact P8 | exact P9 | exact P10 | exact P11 | exact P12 | exact P13 | exact P14 | exact P15 | exact P16 | exact P17 | exact P18 | exact P19 | exact P20 | exact P21 | exact P22 | exact P23)) | (apply Part.flat; simp only [List.cons_append, List.nil_append]) | (apply Part.nilc))) ?_
    have e : pop C want = ({ C with st := C.st.take (C.st.length - 1) }, C.st[C.st.length - 1], decide (want = 0 ∨ C.st[C.st.length - 1] = want)) := by unfold pop; rw [htop, if_neg (by omega), hgd, if_neg (fun h => h6_1 (u8_z.2 h))]
    rw [e]
    refine ⟨_, ?_, rfl, ⟨some ⟨bt, 0, none⟩, tc, oc, ca, cc, _, _, _, cd, _, by dsimp only; rw [hnl], by dsimp only; rw [hnl]; exact hct, hop, hob, hcd⟩⟩
    dsimp only
    congr 4
    simp only [u8_ne, u8_z] at *
    simp_all
  intro h8_2
  refine SPL_y (y_move rfl) rfl ?_
  refine SPL_gy rfl rfl ?_
  refine SPL_y (y_move rfl) rfl ?_
  refine SPL_gy rfl rfl ?_
  refine SPL_y (y_move rfl) rfl ?_
  refine SPL_gy rfl rfl ?_
  refine SPL_y (y_eql rfl rfl) rfl ?_
  refine SPL_y (y_pick_f rfl rfl) rfl ?_
  refine SPL_y (y_assign rfl) rfl ?_
  refine SPL_y (y_assign rfl) rfl ?_
  refine SPL_nil ?_
  refine thenP_n ?_
  refine SP_ret ?_
  refine bodyP_ret (H' := [List.flatten [blk k 191 [pv, uv, .slice (some ⟨bt, 0, none⟩) ((C.st.length : Int) - 1).toNat tc, .slice (some ⟨bo, 0, none⟩) C.opn.length oc, .slice ca C.code.length cc, mv], blk bt 5 (bytesV C.st ++ spt), blk bo 230 (la ++ [S b.res, S b.carry, I b.height, I b.head, .bool b.dead, fa, .slice wa b.wait.length wc] ++ lb ++ spo), List.flatten [s1, List.flatten [sa, sw, sh], s2], cd]]) (Res2 rfl rfl rfl) (by repeat (first | exact Part.nil _ | (apply Part.cons; (first | exact P0 | exact P1 | exact P2 | exact P3 | exact P4 | exact P5 | exact P6 | exact P7 | exact P8 | exact P9 | exact P10 | exact P11 | exact P12 | exact P13 | exact P14 | exact P15 | exact P16 | exact P17 | exact P18 | exact P19 | exact P20 | exact P21 | exact P22 | exact P23)) | (apply Part.flat; simp only [List.cons_append, List.nil_append]) | (apply Part.nilc))) ?_
  have e : pop C want = ({ C with st := C.st.take (C.st.length - 1) }, C.st[C.st.length - 1], decide (want = 0 ∨ C.st[C.st.length - 1] = want)) := by unfold pop; rw [htop, if_neg (by omega), hgd, if_neg (fun h => h6_1 (u8_z.2 h))]
  rw [e]
  refine ⟨_, ?_, rfl, ⟨some ⟨bt, 0, none⟩, tc, oc, ca, cc, _, _, _, cd, _, by dsimp only; rw [hnl], by dsimp only; rw [hnl]; exact hct, hop, hob, hcd⟩⟩
  dsimp only
  congr 4
  simp only [u8_ne, u8_z] at *
  simp_all

theorem top_of {C C' : Chk} (h : C'.opn = C.opn) : C'.top = C.top := by unfold Chk.top; rw [h]
theorem pop_opn (C : Chk) (w : UInt8) : (pop C w).1.opn = C.opn := by unfold pop; split <;> (try split) <;> rfl
theorem pop_code (C : Chk) (w : UInt8) : (pop C w).1.code = C.code := by unfold pop; split <;> (try split) <;> rfl
theorem pop_le (C : Chk) (w : UInt8) : (pop C w).1.st.length ≤ C.st.length := by unfold pop; split <;> (try split) <;> simp
theorem pop_ht {C : Chk} (w : UInt8) (h : C.top.height ≤ C.st.length) : C.top.height ≤ (pop C w).1.st.length := by
  unfold pop; split <;> (try split) <;> simp <;> omega
/-- Nothing but the operands has changed, downwards, not below the floor. -/
def Less (C C' : Chk) : Prop := C'.opn = C.opn ∧ C'.code = C.code ∧ C'.st.length ≤ C.st.length ∧ (C.top.height ≤ C.st.length → C.top.height ≤ C'.st.length)
theorem Less.refl (C : Chk) : Less C C := ⟨rfl, rfl, Nat.le_refl _, id⟩
theorem Less.trans {A B C : Chk} (h : Less A B) (g : Less B C) : Less A C :=
  ⟨g.1.trans h.1, g.2.1.trans h.2.1, Nat.le_trans g.2.2.1 h.2.2.1, fun x => by have := g.2.2.2; rw [top_of h.1] at this; exact this (h.2.2.2 x)⟩
theorem pop_less (C : Chk) (w : UInt8) : Less C (pop C w).1 := ⟨pop_opn C w, pop_code C w, pop_le C w, pop_ht w⟩
theorem popsR_less : ∀ (l : List UInt8) (C : Chk), Less C (popsR C l).1
  | [], C => Less.refl C
  | t :: ts, C => by
    unfold popsR
    split
    · exact (pop_less C t).trans (popsR_less ts _)
    · exact pop_less C t
theorem pops_less (C : Chk) (l : List UInt8) : Less C (pops C l).1 := popsR_less _ _
theorem Less.top {C C' : Chk} (h : Less C C') : C'.top = C.top := top_of h.1
theorem rev_drop {l : List UInt8} {j : Nat} (h : j < l.length) : l.reverse.drop j = l[l.length - 1 - j] :: l.reverse.drop (j + 1) := by
  rw [List.drop_eq_getElem_cons (by simpa using h), List.getElem_reverse]

theorem prep_pops (k : Nat) (pv uv mv : Value) (oa : Option Addr) (C : Chk) (s : Seg) (l : List UInt8) (hm : isChk k pv uv mv oa C s) (hN : 0 < C.opn.length) (hht : C.top.height ≤ C.st.length) (hz : C.st.length ≤ 1000000 ∧ C.opn.length ≤ 1000000 ∧ C.code.length ≤ 1000000) (hl : l.length ≤ 1000) : Spec Tryz.prog 112 [.pointer (some ⟨k, 0, none⟩), S l] [s] (Ret fun v H => ∃ s', v = I (pops C l).2 ∧ H = [s'] ∧ isChk k pv uv mv oa (pops C l).1 s') := by
  refine Spec_enter Tryz.func112 rfl Tryz.ntmps112 rfl ?_
  show SP _ _ _ _ _ [(0, _), (1, _)] _
  refine SP_seq ?_
  refine SP_region ?_
  refine SPL_y (y_assign rfl) rfl ?_
  refine SPL_nil ?_
  refine thenP_n ?_
  refine SP_seq ?_
  refine SP_seq ?_
  refine SP_region ?_
  refine SPL_y (y_move rfl) rfl ?_
  refine SPL_y (y_len_s Tryz.underlying9 rfl) rfl ?_
  refine SPL_y (y_sub rfl rfl (by omega)) rfl ?_
  refine SPL_y (y_assign rfl) rfl ?_
  refine SPL_nil ?_
  refine thenP_n ?_
  refine SP_block ?_
  refine SP_loop (G := Int × Nat × Chk × Seg) (fun g => l.length - g.2.1) (fun g => [(0, .pointer (some ⟨k, 0, none⟩)), (1, S l), (5, I g.1)]) (fun g => [g.2.2.2]) (fun g => g.1 = (l.length : Int) - 1 - g.2.1 ∧ g.2.1 ≤ l.length ∧ pops C l = popsR g.2.2.1 (l.reverse.drop g.2.1) ∧ isChk k pv uv mv oa g.2.2.1 g.2.2.2 ∧ Less C g.2.2.1) (((l.length : Int) - 1, 0, C, s)) (⟨by simp, Nat.zero_le _, rfl, hm, Less.refl C⟩) (by repeat (first | exact Sub.nil _ | refine Sub.cons rfl ?_)) (by repeat (first | exact Part.nil _ | (apply Part.cons; (first | exact P0 | exact P1 | exact P2 | exact P3 | exact P4 | exact P5 | exact P6 | exact P7 | exact P8 | exact P9 | exact P10 | exact P11 | exact P12 | exact P13 | exact P14 | exact P15 | exact P16 | exact P17 | exact P18 | exact P19 | exact P20 | exact P21 | exact P22 | exact P23)) | (apply Part.flat; simp only [List.cons_append, List.nil_append]) | (apply Part.nilc))) ?_
  rintro ⟨i, j, C', s0⟩ ⟨hi, hj, hp, hm', hls⟩
  dsimp only at hi hj hp hm' hls ⊢
  refine SP_seq ?_
  refine SP_seq ?_
  refine SP_region ?_
  refine SPL_y (y_move rfl) rfl ?_
  refine SPL_ifn (y_geq rfl rfl) rfl ?_ ?_
  · intro h2_1
    refine SPL_nil ?_
    refine thenP_n ?_
    refine SP_cond_f rfl ?_
    refine SP_exit ?_
    refine thenP_exit ?_
    refine thenP_exit ?_
    refine inBlockP_hit ?_
    refine thenP_n ?_
    refine SP_seq ?_
    refine SP_region ?_
    refine SPL_y (y_assign rfl) rfl ?_
    refine SPL_nil ?_
    refine thenP_n ?_
    refine SP_ret ?_
    refine bodyP_ret (H' := [s0]) (Res1 rfl rfl) (by repeat (first | exact Part.nil _ | (apply Part.cons; (first | exact P0 | exact P1 | exact P2 | exact P3 | exact P4 | exact P5 | exact P6 | exact P7 | exact P8 | exact P9 | exact P10 | exact P11 | exact P12 | exact P13 | exact P14 | exact P15 | exact P16 | exact P17 | exact P18 | exact P19 | exact P20 | exact P21 | exact P22 | exact P23)) | (apply Part.flat; simp only [List.cons_append, List.nil_append]) | (apply Part.nilc))) ?_
    obtain rfl : j = l.length := by omega
    rw [hp, List.drop_eq_nil_of_le (by simp)]
    exact ⟨_, rfl, rfl, hm'⟩
  intro h2_1
  refine SPL_nil ?_
  refine thenP_n ?_
  refine SP_cond_t rfl ?_
  refine SP_skip ?_
  refine thenP_n ?_
  refine SP_seq ?_
  refine SP_block ?_
  refine SP_seq ?_
  have hjl : j < l.length := by omega
  refine SP_region ?_
  refine SPL_y (y_move rfl) rfl ?_
  refine SPL_y (y_move rfl) rfl ?_
  refine SPL_y (y_move rfl) rfl ?_
  refine SPL_y (y_idx_s Tryz.underlying9 rfl rfl (by omega) (show l[i.toNat]? = some l[l.length - 1 - j] by rw [show i.toNat = l.length - 1 - j by omega]; exact List.getElem?_eq_getElem (by omega))) rfl ?_
  refine SPL_one rfl (SP1_call (prep_pop k pv uv mv oa C' s0 l[l.length - 1 - j] hm' (by rw [hls.1]; exact hN) (by rw [hls.top]; exact hls.2.2.2 hht) ⟨by have := hls.2.2.1; omega, by rw [hls.1]; exact hz.2.1, by rw [hls.2.1]; exact hz.2.2⟩) Tryz.call142 rfl rfl (by repeat (first | exact Part.nil _ | (apply Part.cons; (first | exact P0 | exact P1 | exact P2 | exact P3 | exact P4 | exact P5 | exact P6 | exact P7 | exact P8 | exact P9 | exact P10 | exact P11 | exact P12 | exact P13 | exact P14 | exact P15 | exact P16 | exact P17 | exact P18 | exact P19 | exact P20 | exact P21 | exact P22 | exact P23)) | (apply Part.flat; simp only [List.cons_append, List.nil_append]) | (apply Part.nilc))) ?_)
  rintro v post H' ⟨s1, rfl, rfl, hm1⟩ hH
  try simp only [List.cons_append, List.nil_append] at hH
  subst hH
  generalize hq : (pop C' l[l.length - 1 - j]).2.2 = q
  refine SPL_y (y_move rfl) rfl ?_
  refine SPL_y (y_ext rfl rfl) rfl ?_
  refine SPL_y (y_ext rfl rfl) rfl ?_
  refine SPL_y (y_assign rfl) rfl ?_
  refine SPL_y (y_assign rfl) rfl ?_
  refine SPL_nil ?_
  refine thenP_n ?_
  refine SP_seq ?_
  refine SP_region ?_
  refine SPL_y (y_move rfl) rfl ?_
  rcases q with _ | _
  · refine SPL_y (y_not_f rfl) rfl ?_
    refine SPL_nil ?_
    refine thenP_n ?_
    refine SP_cond_t rfl ?_
    refine SP_seq ?_
    refine SP_region ?_
    refine SPL_y (y_assign rfl) rfl ?_
    refine SPL_nil ?_
    refine thenP_n ?_
    refine SP_ret ?_
    refine inBlockP_ret (thenP_ret (thenP_ret (inBlockP_ret (thenP_ret (bodyP_ret (H' := [s1]) (Res1 rfl rfl) (by repeat (first | exact Part.nil _ | (apply Part.cons; (first | exact P0 | exact P1 | exact P2 | exact P3 | exact P4 | exact P5 | exact P6 | exact P7 | exact P8 | exact P9 | exact P10 | exact P11 | exact P12 | exact P13 | exact P14 | exact P15 | exact P16 | exact P17 | exact P18 | exact P19 | exact P20 | exact P21 | exact P22 | exact P23)) | (apply Part.flat; simp only [List.cons_append, List.nil_append]) | (apply Part.nilc))) ?_)))))
    rw [hp, rev_drop hjl, popsR, if_neg (by simp [hq])]
    exact ⟨_, rfl, rfl, hm1⟩
  · refine SPL_y (y_not_t rfl) rfl ?_
    refine SPL_nil ?_
    refine thenP_n ?_
    refine SP_cond_f rfl ?_
    refine SP_skip ?_
    refine inBlockP_n ?_
    refine thenP_n ?_
    refine SP_region ?_
    refine SPL_y (y_move rfl) rfl ?_
    refine SPL_y (y_sub rfl rfl (by omega)) rfl ?_
    refine SPL_y (y_assign rfl) rfl ?_
    refine SPL_nil ?_
    refine thenP_n ?_
    exact Again.intro ((i - 1, j + 1, (pop C' l[l.length - 1 - j]).1, s1)) (⟨by dsimp only; omega, by dsimp only; omega, by dsimp only; rw [hp, rev_drop hjl, popsR, if_pos hq], hm1, hls.trans (pop_less _ _)⟩) (by simp only []; omega) (by repeat (first | exact Sub.nil _ | refine Sub.cons rfl ?_)) (by repeat (first | exact Part.nil _ | (apply Part.cons; (first | exact P0 | exact P1 | exact P2 | exact P3 | exact P4 | exact P5 | exact P6 | exact P7 | exact P8 | exact P9 | exact P10 | exact P11 | exact P12 | exact P13 | exact P14 | exact P15 | exact P16 | exact P17 | exact P18 | exact P19 | exact P20 | exact P21 | exact P22 | exact P23)) | (apply Part.flat; simp only [List.cons_append, List.nil_append]) | (apply Part.nilc)))

theorem prep_swap (k : Nat) (pv uv mv : Value) (oa : Option Addr) (C : Chk) (s : Seg) (l o : List UInt8) (hm : isChk k pv uv mv oa C s) (hN : 0 < C.opn.length) (hht : C.top.height ≤ C.st.length) (hz : C.st.length ≤ 1000000 ∧ C.opn.length ≤ 1000000 ∧ C.code.length ≤ 1000000) (hl : l.length ≤ 1000) (ho : o.length ≤ 1000) : Spec Tryz.prog 122 [.pointer (some ⟨k, 0, none⟩), S l, S o] [s] (Ret fun v H => ∃ s', v = I (swap C l o).2 ∧ H = [s'] ∧ isChk k pv uv mv oa (swap C l o).1 s') := by
  refine Spec_enter Tryz.func122 rfl Tryz.ntmps122 rfl ?_
  show SP _ _ _ _ _ [(0, _), (1, _), (2, _)] _
  refine SP_seq ?_
  refine SP_region ?_
  refine SPL_y (y_assign rfl) rfl ?_
  refine SPL_nil ?_
  refine thenP_n ?_
  refine SP_seq ?_
  refine SP_region ?_
  refine SPL_y (y_move rfl) rfl ?_
  refine SPL_y (y_move rfl) rfl ?_
  refine SPL_one rfl (SP1_call (prep_pops k pv uv mv oa C s l hm hN hht hz hl) Tryz.call112 rfl rfl (by repeat (first | exact Part.nil _ | (apply Part.cons; (first | exact P0 | exact P1 | exact P2 | exact P3 | exact P4 | exact P5 | exact P6 | exact P7 | exact P8 | exact P9 | exact P10 | exact P11 | exact P12 | exact P13 | exact P14 | exact P15 | exact P16 | exact P17 | exact P18 | exact P19 | exact P20 | exact P21 | exact P22 | exact P23)) | (apply Part.flat; simp only [List.cons_append, List.nil_append]) | (apply Part.nilc))) ?_)
  rintro v post H' ⟨s1, rfl, rfl, hm1⟩ hH
  try simp only [List.cons_append, List.nil_append] at hH
  subst hH
  have hls := pops_less C l
  generalize hP : pops C l = P at *
  obtain ⟨C1, e1⟩ := P
  dsimp only at hm1 hls ⊢
  refine SPL_y (y_assign rfl) rfl ?_
  refine SPL_nil ?_
  refine thenP_n ?_
  refine SP_seq ?_
  obtain ⟨ta, tc, oc, ca, cc, st, so, sb, cd, cs, rfl, hst, hop, hob, hcd⟩ := hm1
  refine SP_open (pre := [_, _, _, _, _]) (by first | exact P0 | exact P1 | exact P2 | exact P3 | exact P4 | exact P5 | exact P6 | exact P7 | exact P8 | exact P9 | exact P10 | exact P11 | exact P12 | exact P13 | exact P14 | exact P15 | exact P16 | exact P17 | exact P18 | exact P19 | exact P20 | exact P21 | exact P22 | exact P23) ?_
  simp only [List.cons_append, List.nil_append]
  refine SP_region ?_
  refine SPL_y (y_move rfl) rfl ?_
  refine SPL_y (y_move rfl) rfl ?_
  refine SPL_y (y_nil rfl) rfl ?_
  refine SPL_y (y_fa fld_191_2 rfl) rfl ?_
  refine SPL_y (y_load Tryz.isAgg144 rfl (by repeat (first | exact Cell.head rfl | apply Cell.tail))) rfl ?_
  refine SPL_y (y_move rfl) rfl ?_
  refine SPL_one rfl (SP1_append el_144 (.inr Tryz.underlying9) rfl rfl hst (by first | exact P0 | exact P1 | exact P2 | exact P3 | exact P4 | exact P5 | exact P6 | exact P7 | exact P8 | exact P9 | exact P10 | exact P11 | exact P12 | exact P13 | exact P14 | exact P15 | exact P16 | exact P17 | exact P18 | exact P19 | exact P20 | exact P21 | exact P22 | exact P23) Src.str (bytesV_one _) (by have := hls.2.2.1; omega) rfl ?_)
  intro a1 c1 s1 h1
  refine SPL_y (y_nil rfl) rfl ?_
  refine SPL_y (y_fa fld_191_2 rfl) rfl ?_
  refine SPL_one rfl (SP1_store Tryz.sizeOf144 rfl rfl rfl (by first | exact U0 | exact U1 | exact U2 | exact U3 | exact U4 | exact U5 | exact U6 | exact U7 | exact U8 | exact U9 | exact U10 | exact U11 | exact U12 | exact U13 | exact U14 | exact U15 | exact U16 | exact U17 | exact U18 | exact U19 | exact U20 | exact U21 | exact U22 | exact U23) (by rfl) ?_)
  refine SPL_nil ?_
  refine thenP_n ?_
  refine SP_seq ?_
  refine SP_region ?_
  refine SPL_y (y_move rfl) rfl ?_
  refine SPL_y (y_assign rfl) rfl ?_
  refine SPL_nil ?_
  refine thenP_n ?_
  refine SP_ret ?_
  refine bodyP_ret (H' := [List.flatten [blk k 191 [pv, uv, .slice a1 (C1.st.length + o.length) c1, .slice oa C1.opn.length oc, .slice ca C1.code.length cc, mv], s1, so, sb, cd]]) (Res1 rfl rfl) (by repeat (first | exact Part.nil _ | (apply Part.cons; (first | exact P0 | exact P1 | exact P2 | exact P3 | exact P4 | exact P5 | exact P6 | exact P7 | exact P8 | exact P9 | exact P10 | exact P11 | exact P12 | exact P13 | exact P14 | exact P15 | exact P16 | exact P17 | exact P18 | exact P19 | exact P20 | exact P21 | exact P22 | exact P23)) | (apply Part.flat; simp only [List.cons_append, List.nil_append]) | (apply Part.nilc))) ?_
  have e : swap C l o = ({ C1 with st := C1.st ++ o }, e1) := by unfold swap; rw [hP]
  rw [e]
  exact ⟨_, rfl, rfl, a1, c1, oc, ca, cc, s1, so, sb, cd, cs, by simp, by simpa [bytesV_append] using h1, hop, hob, hcd⟩

theorem prep_leaves (k : Nat) (pv uv mv : Value) (oa : Option Addr) (C : Chk) (s : Seg) (l : List UInt8) (hm : isChk k pv uv mv oa C s) (hN : 0 < C.opn.length) (hht : C.top.height ≤ C.st.length) (hz : C.st.length ≤ 1000000 ∧ C.opn.length ≤ 1000000 ∧ C.code.length ≤ 1000000) (hl : l.length ≤ 1000) : Spec Tryz.prog 109 [.pointer (some ⟨k, 0, none⟩), S l] [s] (Ret fun v H => ∃ s', v = I (leaves C l).2 ∧ H = [s'] ∧ isChk k pv uv mv oa (leaves C l).1 s') := by
  refine Spec_enter Tryz.func109 rfl Tryz.ntmps109 rfl ?_
  show SP _ _ _ _ _ [(0, _), (1, _)] _
  refine SP_seq ?_
  refine SP_region ?_
  refine SPL_y (y_assign rfl) rfl ?_
  refine SPL_nil ?_
  refine thenP_n ?_
  refine SP_seq ?_
  refine SP_region ?_
  refine SPL_y (y_move rfl) rfl ?_
  refine SPL_y (y_move rfl) rfl ?_
  refine SPL_one rfl (SP1_call (prep_pops k pv uv mv oa C s l hm hN hht hz hl) Tryz.call112 rfl rfl (by repeat (first | exact Part.nil _ | (apply Part.cons; (first | exact P0 | exact P1 | exact P2 | exact P3 | exact P4 | exact P5 | exact P6 | exact P7 | exact P8 | exact P9 | exact P10 | exact P11 | exact P12 | exact P13 | exact P14 | exact P15 | exact P16 | exact P17 | exact P18 | exact P19 | exact P20 | exact P21 | exact P22 | exact P23)) | (apply Part.flat; simp only [List.cons_append, List.nil_append]) | (apply Part.nilc))) ?_)
  rintro v post H' ⟨s1, rfl, rfl, hm1⟩ hH
  try simp only [List.cons_append, List.nil_append] at hH
  subst hH
  have hls := pops_less C l
  generalize hP : pops C l = P at *
  obtain ⟨C1, e1⟩ := P
  dsimp only at hm1 hls ⊢
  refine SPL_y (y_assign rfl) rfl ?_
  refine SPL_nil ?_
  refine thenP_n ?_
  refine SP_seq ?_
  obtain ⟨ta, tc, oc, ca, cc, st, so, sb, cd, cs, rfl, hst, hop, hob, hcd⟩ := hm1
  refine SP_open (pre := [_, _, _, _, _]) (by first | exact P0 | exact P1 | exact P2 | exact P3 | exact P4 | exact P5 | exact P6 | exact P7 | exact P8 | exact P9 | exact P10 | exact P11 | exact P12 | exact P13 | exact P14 | exact P15 | exact P16 | exact P17 | exact P18 | exact P19 | exact P20 | exact P21 | exact P22 | exact P23) ?_
  simp only [List.cons_append, List.nil_append]
  have hN1 : 0 < C1.opn.length := by rw [hls.1]; exact hN
  have hht1 : C1.top.height ≤ C1.st.length := by rw [hls.top]; exact hls.2.2.2 hht
  have hz1 : C1.st.length ≤ 1000000 ∧ C1.opn.length ≤ 1000000 := ⟨by have := hls.2.2.1; omega, by rw [hls.1]; exact hz.2.1⟩
  obtain ⟨bo, spo, rfl, hoc, hspo, rfl⟩ := hop.row (by omega)
  obtain ⟨la, c7, lb, s1, sv, s2, rfl, hla, rfl, hbk, hpre, hput⟩ := hob.get (i := C1.opn.length - 1) (by omega)
  obtain ⟨b, hb⟩ : ∃ b, C1.opn[C1.opn.length - 1] = b := ⟨_, rfl⟩
  rw [hb] at hbk
  have htop : C1.top = b := by rw [top_eq hN1, hb]
  rw [htop] at hht1
  obtain ⟨fa, wa, wc, vs, sa, sw, sh, rfl, rfl, halt, hwa, hho⟩ := hbk
  refine SP_draw 999 [(0, 0), (1, 0), (2, 0), (4, 0), (5, 0), (6, 0), (3, 1), (7, 1), (8, 0), (9, 0), (10, 0), (11, 0)] mixed (by kernel_rfl) (fun _ _ _ _ _ h => h) (Part.refl _) ?_
  refine SPO_p rfl (y_move rfl) rfl ?_
  refine SPO_p rfl (y_nil rfl) rfl ?_
  refine SPO_p rfl (y_fa fld_191_3 rfl) rfl ?_
  refine SPO_p rfl (y_move rfl) rfl ?_
  refine SPO_p rfl (y_nil rfl) rfl ?_
  refine SPO_p rfl (y_fa fld_191_3 rfl) rfl ?_
  refine SPO_h rfl (y_load Tryz.isAgg188 rfl (by repeat (first | exact Cell.head rfl | apply Cell.tail))) rfl ?_
  refine SPO_h rfl (y_load Tryz.isAgg188 rfl (by repeat (first | exact Cell.head rfl | apply Cell.tail))) rfl ?_
  refine SPO_p rfl (y_len_l Tryz.underlying188 rfl) rfl ?_
  refine SPO_p rfl (y_sub rfl rfl (by omega)) rfl ?_
  refine SPO_p rfl (y_ia Tryz.underlying188 Tryz.sizeOf230 rfl rfl (by omega)) rfl ?_
  refine SPO_p rfl (y_assign rfl) rfl ?_
  refine SPO_nil ?_
  refine thenP_n ?_
  refine SP_seq ?_
  refine SP_draw 13 [(0, 0), (1, 0), (2, 0), (3, 0), (4, 0), (6, 0), (7, 0), (8, 0), (5, 1), (9, 1), (10, 0), (11, 0), (12, 0), (13, 3), (14, 0), (15, 0), (16, 3)] mixed (by kernel_rfl) (fun _ _ _ _ _ h => h) (Part.refl _) ?_
  refine SPO_p rfl (y_move rfl) rfl ?_
  refine SPO_p rfl (y_move rfl) rfl ?_
  refine SPO_p rfl (y_move rfl) rfl ?_
  refine SPO_p rfl (y_nil rfl) rfl ?_
  refine SPO_p rfl (y_fa fld_191_2 rfl) rfl ?_
  refine SPO_p rfl (y_move rfl) rfl ?_
  refine SPO_p rfl (y_nil rfl) rfl ?_
  refine SPO_p rfl (y_fa fld_230_2 rfl) rfl ?_
  refine SPO_h rfl (y_load Tryz.isAgg144 rfl (by repeat (first | exact Cell.head rfl | apply Cell.tail))) rfl ?_
  refine SPO_h rfl (y_load Tryz.isAgg3 rfl (by repeat (first | exact mid_cell (q := 2) (i := C1.opn.length - 1) (by omega) hla rfl | apply Cell.tail))) rfl ?_
  refine SPO_p rfl (y_cut hst Tryz.underlying144 Tryz.sizeOf5 rfl rfl (by have := hst.2; rcases this with ⟨_, _, h0, _⟩ | ⟨_, _, _, h0, _⟩ <;> omega)) rfl ?_
  refine SPO_p rfl (y_nil rfl) rfl ?_
  refine SPO_p rfl (y_fa fld_191_2 rfl) rfl ?_
  refine SPO_z (k := 0) rfl rfl (SP1_store Tryz.sizeOf144 rfl rfl rfl (by first | exact U0 | exact U1 | exact U2 | exact U3 | exact U4 | exact U5 | exact U6 | exact U7 | exact U8 | exact U9 | exact U10 | exact U11 | exact U12 | exact U13 | exact U14 | exact U15 | exact U16 | exact U17 | exact U18 | exact U19 | exact U20 | exact U21 | exact U22 | exact U23) (by rfl) ?_)
  refine SPO_p rfl (y_nil rfl) rfl ?_
  refine SPO_p rfl (y_fa fld_230_4 rfl) rfl ?_
  refine SPO_z (k := 0) rfl rfl (SP1_store Tryz.sizeOf4 rfl rfl rfl (by first | exact U0 | exact U1 | exact U2 | exact U3 | exact U4 | exact U5 | exact U6 | exact U7 | exact U8 | exact U9 | exact U10 | exact U11 | exact U12 | exact U13 | exact U14 | exact U15 | exact U16 | exact U17 | exact U18 | exact U19 | exact U20 | exact U21 | exact U22 | exact U23) (ble_of (by have := hop.1; simp at this ⊢; omega)) ?_)
  rw [mid_set (q := 4) (i := C1.opn.length - 1) (by omega) hla (by simp)]
  simp only [List.set_cons_succ, List.set_cons_zero]
  refine SPO_nil ?_
  refine thenP_n ?_
  refine SP_seq ?_
  refine SP_region ?_
  refine SPL_y (y_move rfl) rfl ?_
  refine SPL_y (y_assign rfl) rfl ?_
  refine SPL_nil ?_
  refine thenP_n ?_
  refine SP_ret ?_
  refine bodyP_ret (H' := [List.flatten [blk k 191 [pv, uv, .slice ta b.height tc, .slice (some ⟨bo, 0, none⟩) C1.opn.length oc, .slice ca C1.code.length cc, mv], st, blk bo 230 (la ++ [S b.res, S b.carry, I b.height, I b.head, .bool true, fa, .slice wa b.wait.length wc] ++ lb ++ spo), List.flatten [s1, List.flatten [sa, sw, sh], s2], cd]]) (Res1 rfl rfl) (by repeat (first | exact Part.nil _ | (apply Part.cons; (first | exact P0 | exact P1 | exact P2 | exact P3 | exact P4 | exact P5 | exact P6 | exact P7 | exact P8 | exact P9 | exact P10 | exact P11 | exact P12 | exact P13 | exact P14 | exact P15 | exact P16 | exact P17 | exact P18 | exact P19 | exact P20 | exact P21 | exact P22 | exact P23)) | (apply Part.flat; simp only [List.cons_append, List.nil_append]) | (apply Part.nilc))) ?_
  have e : leaves C l = ({ C1.setTop { b with dead := true } with st := C1.st.take b.height }, e1) := by unfold leaves; rw [hP]; dsimp only; rw [htop]
  rw [e]
  refine ⟨_, rfl, rfl, isChk.intro (by simp [hht1]) (by simp [Chk.setTop]) rfl ?_ (hop.mid hoc hspo rfl) (hput _ _ _ ⟨fa, wa, wc, vs, sa, sw, sh, rfl, rfl, halt, hwa, hho⟩) hcd⟩
  have := hst.cut (j := b.height) hht1
  rwa [Nat.mul_one, bytesV_take] at this

end Go.Sl
