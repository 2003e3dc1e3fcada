/- Walks: package prep, else and end (made by program out of short notes) -/
import Derived.Test.Qxb6500572aGreatDoorWPrepC
namespace Go.Sl
open Go Go.Wl Go.Proofs
set_option maxRecDepth 100000
set_option linter.unusedVariables false
set_option linter.unusedSimpArgs false
theorem closes_eq {C C1 : Chk} {e : Int} (h : closes C = (C1, e)) : Less C C1 := by have := closes_less C; rwa [h] at this

theorem prep_turn (k : Nat) (pv uv mv : Value) (oa : Option Addr) (C : Chk) (s : Seg) (a : Nat) (hm : isChk k pv uv mv oa C s) (hN : 0 < C.opn.length) (hht : C.top.height ≤ C.st.length) (hz : C.st.length ≤ 100000 ∧ C.opn.length ≤ 100000 ∧ C.code.length ≤ 100000) (hr : C.top.res.length ≤ 1000) (hw : ∀ b, b ∈ C.opn → b.wait.length ≤ 1000) (halt0 : C.top.alt = some a) (hac : a < C.code.length) : Spec Tryz.prog 117 [.pointer (some ⟨k, 0, none⟩)] [s] (Ret fun v H => ∃ s', v = I (turn C).2 ∧ H = [s'] ∧ isChk k pv uv mv oa (turn C).1 s') := by
  refine Spec_enter Tryz.func117 rfl Tryz.ntmps117 rfl ?_
  show SP _ _ _ _ _ [(0, _)] _
  refine SP_seq ?_
  refine SP_region ?_
  refine SPL_y (y_assign rfl) rfl ?_
  refine SPL_nil ?_
  refine thenP_n ?_
  refine SP_seq ?_
  refine SP_region ?_
  refine SPL_y (y_move rfl) rfl ?_
  refine SPL_one rfl (SP1_call (prep_closes k pv uv mv oa C s hm hN hht ⟨by omega, by omega, by omega⟩ hr) Tryz.call144 rfl rfl (by repeat (first | exact Part.nil _ | (apply Part.cons; (first | exact P0 | exact P1 | exact P2 | exact P3 | exact P4 | exact P5 | exact P6 | exact P7 | exact P8 | exact P9 | exact P10 | exact P11 | exact P12 | exact P13 | exact P14 | exact P15 | exact P16 | exact P17 | exact P18 | exact P19 | exact P20 | exact P21 | exact P22 | exact P23)) | (apply Part.flat; simp only [List.cons_append, List.nil_append]) | (apply Part.nilc))) ?_)
  rintro v post H' ⟨s1', rfl, rfl, hm1⟩ hH
  try simp only [List.cons_append, List.nil_append] at hH
  subst hH
  generalize hP : closes C = P at *
  obtain ⟨C1, e1⟩ := P
  dsimp only at hm1 ⊢
  have hls := closes_eq hP
  have hN1 : 0 < C1.opn.length := by rw [hls.1]; exact hN
  have hz1 : C1.st.length ≤ 100000 ∧ C1.opn.length ≤ 100000 ∧ C1.code.length ≤ 100000 := ⟨by have := hls.2.2.1; omega, by rw [hls.1]; exact hz.2.1, by rw [hls.2.1]; exact hz.2.2⟩
  refine SPL_y (y_assign rfl) rfl ?_
  refine SPL_nil ?_
  refine thenP_n ?_
  refine SP_seq ?_
  obtain ⟨ta, tc, oc, ca, cc, st, so, sb, cd, cs, rfl, hst, hop, hob, hcd⟩ := hm1
  refine SP_open (pre := [_, _, _, _, _]) (by first | exact P0 | exact P1 | exact P2 | exact P3 | exact P4 | exact P5 | exact P6 | exact P7 | exact P8 | exact P9 | exact P10 | exact P11 | exact P12 | exact P13 | exact P14 | exact P15 | exact P16 | exact P17 | exact P18 | exact P19 | exact P20 | exact P21 | exact P22 | exact P23) ?_
  simp only [List.cons_append, List.nil_append]
  obtain ⟨bo, spo, hbo, hoc, hspo, rfl⟩ := hop.row (by omega)
  obtain rfl := hbo
  obtain ⟨la, c7, lb, s1, sv, s2, rfl, hla, rfl, hbk, hpre, hput⟩ := hob.get (i := C1.opn.length - 1) (by omega)
  obtain ⟨b, hb⟩ : ∃ b, C1.opn[C1.opn.length - 1] = b := ⟨_, rfl⟩
  rw [hb] at hbk
  obtain ⟨fa, wa, wc, vs, sa, sw, sh, rfl, rfl, halt, hwa, hho⟩ := hbk
  have htop1 : C1.top = b := by rw [top_eq hN1, hb]
  have htop : C.top = b := by rw [← htop1, hls.top]
  have hbl : b.wait.length ≤ 1000 := hw b (by rw [← hls.1, ← hb]; exact List.getElem_mem _)
  rw [htop] at halt0
  rw [halt0] at halt
  obtain ⟨kc2, ac2, rfl, hsa⟩ := halt
  refine SP_draw 999 [(0, 0), (1, 0), (2, 0), (4, 0), (5, 0), (6, 0), (3, 1), (7, 1), (8, 0), (9, 0), (10, 0), (11, 0)] mixed (by kernel_rfl) (fun _ _ _ _ _ h => h) (Part.refl _) ?_
  refine SPO_p rfl (y_move rfl) rfl ?_
  refine SPO_p rfl (y_nil rfl) rfl ?_
  refine SPO_p rfl (y_fa fld_191_3 rfl) rfl ?_
  refine SPO_p rfl (y_move rfl) rfl ?_
  refine SPO_p rfl (y_nil rfl) rfl ?_
  refine SPO_p rfl (y_fa fld_191_3 rfl) rfl ?_
  refine SPO_h rfl (y_load Tryz.isAgg188 rfl (by repeat (first | exact Cell.head rfl | apply Cell.tail))) rfl ?_
  refine SPO_h rfl (y_load Tryz.isAgg188 rfl (by repeat (first | exact Cell.head rfl | apply Cell.tail))) rfl ?_
  refine SPO_p rfl (y_len_l Tryz.underlying188 rfl) rfl ?_
  refine SPO_p rfl (y_sub rfl rfl (by omega)) rfl ?_
  refine SPO_p rfl (y_ia Tryz.underlying188 Tryz.sizeOf230 rfl rfl (by omega)) rfl ?_
  refine SPO_p rfl (y_assign rfl) rfl ?_
  refine SPO_nil ?_
  refine thenP_n ?_
  refine SP_seq ?_
  refine SP_open (pre := [s1, List.flatten [sa, sw, sh], s2]) (by first | exact P0 | exact P1 | exact P2 | exact P3 | exact P4 | exact P5 | exact P6 | exact P7 | exact P8 | exact P9 | exact P10 | exact P11 | exact P12 | exact P13 | exact P14 | exact P15 | exact P16 | exact P17 | exact P18 | exact P19 | exact P20 | exact P21 | exact P22 | exact P23) ?_
  simp only [List.cons_append, List.nil_append]
  refine SP_open (pre := [sa, sw, sh]) (by first | exact P0 | exact P1 | exact P2 | exact P3 | exact P4 | exact P5 | exact P6 | exact P7 | exact P8 | exact P9 | exact P10 | exact P11 | exact P12 | exact P13 | exact P14 | exact P15 | exact P16 | exact P17 | exact P18 | exact P19 | exact P20 | exact P21 | exact P22 | exact P23) ?_
  simp only [List.cons_append, List.nil_append]
  refine SP_draw (Hs := [blk bo 230 (la ++ [S b.res, S b.carry, I b.height, I b.head, .bool b.dead, .func (.func 151) #[] #[.pointer (some ⟨kc2, 0, none⟩), .pointer (some ⟨ac2, 0, none⟩)], .slice wa b.wait.length wc] ++ lb ++ spo)]) 9 [(0, 0), (1, 0), (2, 0), (3, 0), (5, 0), (6, 0), (4, 1), (7, 2), (8, 2), (9, 3), (10, 0), (11, 0), (12, 3)] mixed (by kernel_rfl) (fun _ _ _ _ _ h => h) (by repeat (first | exact Part.nil _ | (apply Part.cons; (first | exact P0 | exact P1 | exact P2 | exact P3 | exact P4 | exact P5 | exact P6 | exact P7 | exact P8 | exact P9 | exact P10 | exact P11 | exact P12 | exact P13 | exact P14 | exact P15 | exact P16 | exact P17 | exact P18 | exact P19 | exact P20 | exact P21 | exact P22 | exact P23)) | (apply Part.flat; simp only [List.cons_append, List.nil_append]) | (apply Part.nilc))) ?_
  refine SPO_p rfl (y_move rfl) rfl ?_
  refine SPO_p rfl (y_move rfl) rfl ?_
  refine SPO_p rfl (y_nil rfl) rfl ?_
  refine SPO_p rfl (y_fa fld_230_6 rfl) rfl ?_
  refine SPO_p rfl (y_move rfl) rfl ?_
  refine SPO_p rfl (y_build B181 rfl rfl (by simp only [fillL, List.foldl_cons, List.foldl_nil, List.set_cons_zero, List.set_cons_succ]; exact rfl)) rfl ?_
  refine SPO_h rfl (y_load Tryz.isAgg228 rfl (by repeat (first | exact mid_cell (q := 6) (i := C1.opn.length - 1) (by omega) hla rfl | apply Cell.tail))) rfl ?_
  refine SPO_a rfl rfl (SP1_call (prep_hole k pv uv _ _ mv _ _ C1.code _ ⟨4, -1, 0, 0⟩ hcd (by omega)) Tryz.call143 rfl rfl (by repeat (first | exact Part.nil _ | (apply Part.cons; (first | exact P0 | exact P1 | exact P2 | exact P3 | exact P4 | exact P5 | exact P6 | exact P7 | exact P8 | exact P9 | exact P10 | exact P11 | exact P12 | exact P13 | exact P14 | exact P15 | exact P16 | exact P17 | exact P18 | exact P19 | exact P20 | exact P21 | exact P22 | exact P23)) | (apply Part.flat; simp only [List.cons_append, List.nil_append]) | (apply Part.nilc))) ?_)
  rintro hv post H' ⟨ca1, cc1, cd1, kc, acc, rfl, rfl, hcd1⟩ hH
  try simp only [List.cons_append, List.nil_append] at hH
  subst hH
  refine ⟨⟨_, (by repeat (first | exact Part.nil _ | (apply Part.cons; (first | exact P0 | exact P1 | exact P2 | exact P3 | exact P4 | exact P5 | exact P6 | exact P7 | exact P8 | exact P9 | exact P10 | exact P11 | exact P12 | exact P13 | exact P14 | exact P15 | exact P16 | exact P17 | exact P18 | exact P19 | exact P20 | exact P21 | exact P22 | exact P23)) | (apply Part.flat; simp only [List.cons_append, List.nil_append]) | (apply Part.nilc)))⟩, ?_⟩
  refine SPO_a rfl rfl (SP1_slice1 el_228 rfl rfl rfl rfl rfl ?_)
  intro b26
  refine ⟨⟨_, (by repeat (first | exact Part.nil _ | (apply Part.cons; (first | exact P0 | exact P1 | exact P2 | exact P3 | exact P4 | exact P5 | exact P6 | exact P7 | exact P8 | exact P9 | exact P10 | exact P11 | exact P12 | exact P13 | exact P14 | exact P15 | exact P16 | exact P17 | exact P18 | exact P19 | exact P20 | exact P21 | exact P22 | exact P23)) | (apply Part.flat; simp only [List.cons_append, List.nil_append]) | (apply Part.nilc)))⟩, ?_⟩
  refine SPO_z (k := 0) rfl rfl (SP1_append el_228 (.inl Tryz.underlying228) rfl rfl hwa (by first | exact P0 | exact P1 | exact P2 | exact P3 | exact P4 | exact P5 | exact P6 | exact P7 | exact P8 | exact P9 | exact P10 | exact P11 | exact P12 | exact P13 | exact P14 | exact P15 | exact P16 | exact P17 | exact P18 | exact P19 | exact P20 | exact P21 | exact P22 | exact P23) (Src.of (by repeat (first | exact Cells.all _ | exact Cells.head rfl | apply Cells.tail)) (by rfl)) (by rfl) (by omega) rfl ?_)
  intro a1 c1 w1 h1
  refine SPO_p rfl (y_nil rfl) rfl ?_
  refine SPO_p rfl (y_fa fld_230_6 rfl) rfl ?_
  refine SPO_z (k := 0) rfl rfl (SP1_store Tryz.sizeOf228 rfl rfl rfl (by first | exact U0 | exact U1 | exact U2 | exact U3 | exact U4 | exact U5 | exact U6 | exact U7 | exact U8 | exact U9 | exact U10 | exact U11 | exact U12 | exact U13 | exact U14 | exact U15 | exact U16 | exact U17 | exact U18 | exact U19 | exact U20 | exact U21 | exact U22 | exact U23) (ble_of (by have := hop.1; simp at this ⊢; omega)) ?_)
  rw [mid_set (q := 6) (i := C1.opn.length - 1) (by omega) hla (by simp)]
  simp only [List.set_cons_succ, List.set_cons_zero]
  refine SPO_nil ?_
  refine thenP_n ?_
  refine SP_seq ?_
  subst hsa
  refine SP_open (pre := [blk kc2 185 [.pointer (some ⟨k, 0, none⟩)], blk ac2 3 [I a]]) (by first | exact P0 | exact P1 | exact P2 | exact P3 | exact P4 | exact P5 | exact P6 | exact P7 | exact P8 | exact P9 | exact P10 | exact P11 | exact P12 | exact P13 | exact P14 | exact P15 | exact P16 | exact P17 | exact P18 | exact P19 | exact P20 | exact P21 | exact P22 | exact P23) ?_
  simp only [List.cons_append, List.nil_append]
  refine SP_draw 9 [(0, 0), (1, 0), (2, 0), (4, 0), (5, 0), (6, 0), (3, 1), (7, 1), (8, 0), (9, 3)] mixed (by kernel_rfl) (fun _ _ _ _ _ h => h) (Part.refl _) ?_
  refine SPO_p rfl (y_move rfl) rfl ?_
  refine SPO_p rfl (y_nil rfl) rfl ?_
  refine SPO_p rfl (y_fa fld_230_5 rfl) rfl ?_
  refine SPO_p rfl (y_move rfl) rfl ?_
  refine SPO_p rfl (y_nil rfl) rfl ?_
  refine SPO_p rfl (y_fa fld_191_4 rfl) rfl ?_
  refine SPO_h rfl (y_load Tryz.isAgg227 rfl (by repeat (first | exact mid_cell (q := 5) (i := C1.opn.length - 1) (by omega) hla rfl | apply Cell.tail))) rfl ?_
  refine SPO_h rfl (y_load Tryz.isAgg106 rfl (by repeat (first | exact Cell.head rfl | apply Cell.tail))) rfl ?_
  refine SPO_p rfl (y_len_l Tryz.underlying106 rfl) rfl ?_
  refine SPO_z (k := 0) rfl rfl (SP1_callv (first := []) (cap := [.pointer (some ⟨kc2, 0, none⟩), .pointer (some ⟨ac2, 0, none⟩)]) (args := [I ((C1.code.length + 1 : Nat) : Int)]) rfl (prep_fill k pv uv _ _ mv _ (C1.code.length + 1) _ (C1.code ++ [⟨4, -1, 0, 0⟩]) _ a ((C1.code.length + 1 : Nat) : Int) kc2 ac2 (by simp) hcd1 (by have := hls.2.1; rw [this]; omega)) Tryz.call151 rfl rfl (by repeat (first | exact Part.nil _ | (apply Part.cons; (first | exact P0 | exact P1 | exact P2 | exact P3 | exact P4 | exact P5 | exact P6 | exact P7 | exact P8 | exact P9 | exact P10 | exact P11 | exact P12 | exact P13 | exact P14 | exact P15 | exact P16 | exact P17 | exact P18 | exact P19 | exact P20 | exact P21 | exact P22 | exact P23)) | (apply Part.flat; simp only [List.cons_append, List.nil_append]) | (apply Part.nilc))) ?_)
  rintro v post H' ⟨cd2, rfl, rfl, hcd2⟩ hH
  simp only [List.cons_append, List.nil_append] at hH
  subst hH
  refine SPO_nil ?_
  refine thenP_n ?_
  refine SP_seq ?_
  refine SP_region ?_
  refine SPL_y (y_move rfl) rfl ?_
  refine SPL_y (y_move rfl) rfl ?_
  refine SPL_y (y_nil rfl) rfl ?_
  refine SPL_y (y_fa fld_230_5 rfl) rfl ?_
  refine SPL_one rfl (SP1_store Tryz.sizeOf227 rfl rfl rfl (by first | exact U0 | exact U1 | exact U2 | exact U3 | exact U4 | exact U5 | exact U6 | exact U7 | exact U8 | exact U9 | exact U10 | exact U11 | exact U12 | exact U13 | exact U14 | exact U15 | exact U16 | exact U17 | exact U18 | exact U19 | exact U20 | exact U21 | exact U22 | exact U23) (ble_of (by have := hop.1; simp at this ⊢; omega)) ?_)
  rw [mid_set (q := 5) (i := C1.opn.length - 1) (by omega) hla (by simp)]
  simp only [List.set_cons_succ, List.set_cons_zero]
  refine SPL_y (y_nil rfl) rfl ?_
  refine SPL_y (y_fa fld_230_4 rfl) rfl ?_
  refine SPL_one rfl (SP1_store Tryz.sizeOf4 rfl rfl rfl (by first | exact U0 | exact U1 | exact U2 | exact U3 | exact U4 | exact U5 | exact U6 | exact U7 | exact U8 | exact U9 | exact U10 | exact U11 | exact U12 | exact U13 | exact U14 | exact U15 | exact U16 | exact U17 | exact U18 | exact U19 | exact U20 | exact U21 | exact U22 | exact U23) (ble_of (by have := hop.1; simp at this ⊢; omega)) ?_)
  rw [mid_set (q := 4) (i := C1.opn.length - 1) (by omega) hla (by simp)]
  simp only [List.set_cons_succ, List.set_cons_zero]
  refine SPL_nil ?_
  refine thenP_n ?_
  refine SP_seq ?_
  refine SP_region ?_
  refine SPL_y (y_move rfl) rfl ?_
  refine SPL_y (y_assign rfl) rfl ?_
  refine SPL_nil ?_
  refine thenP_n ?_
  refine SP_ret ?_
  refine bodyP_ret (H' := [List.flatten [blk k 191 [pv, uv, .slice ta C1.st.length tc, .slice (some ⟨bo, 0, none⟩) C1.opn.length oc, .slice ca1 (C1.code.length + 1) cc1, mv], st, blk bo 230 (la ++ [S b.res, S b.carry, I b.height, I b.head, .bool false, .nilFunc, .slice a1 (b.wait.length + 1) c1] ++ lb ++ spo), List.flatten [s1, List.flatten [[], w1, List.flatten [sh, List.flatten [blk kc 185 [.pointer (some ⟨k, 0, none⟩)], blk acc 3 [I C1.code.length]]]], s2], cd2]]) (Res1 rfl rfl) (by repeat (first | exact Part.nil _ | (apply Part.cons; (first | exact P0 | exact P1 | exact P2 | exact P3 | exact P4 | exact P5 | exact P6 | exact P7 | exact P8 | exact P9 | exact P10 | exact P11 | exact P12 | exact P13 | exact P14 | exact P15 | exact P16 | exact P17 | exact P18 | exact P19 | exact P20 | exact P21 | exact P22 | exact P23)) | (apply Part.flat; simp only [List.cons_append, List.nil_append]) | (apply Part.nilc))) ?_
  have e : turn C = ((fill (hole C1 ⟨4, -1, 0, 0⟩) a ((C1.code.length + 1 : Nat) : Int)).setTop { b with wait := b.wait ++ [C1.code.length], alt := none, dead := false }, e1) := by
    unfold turn; rw [hP]; dsimp only; rw [htop1, halt0]; simp [hole]
  rw [e]
  exact ⟨_, rfl, rfl, isChk.intro rfl (by simp [Chk.setTop, fill, hole]) (by simp [Chk.setTop, fill, hole]) hst (hop.mid hoc hspo rfl) (hput _ _ _ ⟨_, a1, c1, _, [], w1, _, by simp, rfl, ⟨rfl, rfl⟩, by simpa using h1, hho.snoc ⟨kc, acc, rfl, rfl⟩⟩) hcd2⟩

end Go.Sl
