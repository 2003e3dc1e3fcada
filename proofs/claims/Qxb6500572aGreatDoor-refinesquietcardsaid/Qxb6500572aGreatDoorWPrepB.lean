/- Walks: package prep, holes and jumps (made by program out of short notes) -/
import Derived.Test.Qxb6500572aGreatDoorWPrepA
namespace Go.Sl
open Go Go.Wl Go.Proofs
set_option maxRecDepth 100000
set_option linter.unusedVariables false
set_option linter.unusedSimpArgs false
theorem flat_split {α : Type} (f : α → List Value) {l : List α} {a : Nat} (h : a < l.length) : l.flatMap f = (l.take a).flatMap f ++ f l[a] ++ (l.drop (a + 1)).flatMap f := by
  conv => lhs; rw [← List.take_append_drop a l, List.drop_eq_getElem_cons h, List.flatMap_append, List.flatMap_cons, ← List.append_assoc]
theorem flat_modify {α : Type} (f : α → List Value) (g : α → α) {l : List α} {a : Nat} (h : a < l.length) : (l.modify a g).flatMap f = (l.take a).flatMap f ++ f (g l[a]) ++ (l.drop (a + 1)).flatMap f := by
  rw [List.modify_eq_take_cons_drop h]; simp

theorem prep_hole (k : Nat) (pv uv tv ov mv : Value) (ca : Option Addr) (cc : Nat) (code : List Flat) (cd : Seg) (f : Flat) (hcd : Arr 181 4 ca code.length cc (code.flatMap flatV) cd) (hz : code.length ≤ 1000000) : Spec Tryz.prog 143 [.pointer (some ⟨k, 0, none⟩), .agg (flatV f).toArray] [blk k 191 [pv, uv, tv, ov, .slice ca code.length cc, mv], cd] (Ret fun v H => ∃ a1 c1 s1 kc acc, v = .func (.func 151) #[] #[.pointer (some ⟨kc, 0, none⟩), .pointer (some ⟨acc, 0, none⟩)] ∧ H = [blk k 191 [pv, uv, tv, ov, .slice a1 (code.length + 1) c1, mv], s1, blk kc 185 [.pointer (some ⟨k, 0, none⟩)], blk acc 3 [I code.length]] ∧ Arr 181 4 a1 (code.length + 1) c1 ((code ++ [f]).flatMap flatV) s1) := by
  refine Spec_enter Tryz.func143 rfl Tryz.ntmps143 rfl ?_
  show SP _ _ _ _ _ [(0, _), (1, _)] _
  refine SP_seq ?_
  refine SP_region ?_
  refine SPL_one rfl (SP1_box rfl rfl rfl ?_)
  intro b2
  refine SPL_one rfl (SP1_box rfl rfl rfl ?_)
  intro b3
  refine SPL_y (y_assign rfl) rfl ?_
  refine SPL_nil ?_
  refine thenP_n ?_
  refine SP_seq ?_
  refine SP_region ?_
  refine SPL_y (y_load Tryz.isAgg185 rfl (by repeat (first | exact Cell.head rfl | apply Cell.tail))) rfl ?_
  refine SPL_y (y_nil rfl) rfl ?_
  refine SPL_y (y_fa fld_191_4 rfl) rfl ?_
  refine SPL_y (y_load Tryz.isAgg106 rfl (by repeat (first | exact Cell.head rfl | apply Cell.tail))) rfl ?_
  refine SPL_y (y_len_l Tryz.underlying106 rfl) rfl ?_
  refine SPL_one rfl (SP1_alloc Tryz.zeroValue3 rfl rfl ?_)
  intro b5
  refine SPL_one rfl (SP1_store Tryz.sizeOf3 rfl rfl rfl (by first | exact U0 | exact U1 | exact U2 | exact U3 | exact U4 | exact U5 | exact U6 | exact U7 | exact U8 | exact U9 | exact U10 | exact U11 | exact U12 | exact U13 | exact U14 | exact U15 | exact U16 | exact U17 | exact U18 | exact U19 | exact U20 | exact U21 | exact U22 | exact U23) (by rfl) ?_)
  refine SPL_nil ?_
  refine thenP_n ?_
  refine SP_seq ?_
  refine SP_draw (Hs := [blk b2 185 [.pointer (some ⟨k, 0, none⟩)], blk b3 181 (flatV f), blk k 191 [pv, uv, tv, ov, .slice ca code.length cc, mv]]) 10 [(0, 1), (1, 1), (2, 0), (3, 0), (4, 1), (5, 1), (6, 2), (7, 2), (8, 0), (9, 0), (10, 3)] mixed (by kernel_rfl) (fun _ _ _ _ _ h => h) (by repeat (first | exact Part.nil _ | (apply Part.cons; (first | exact P0 | exact P1 | exact P2 | exact P3 | exact P4 | exact P5 | exact P6 | exact P7 | exact P8 | exact P9 | exact P10 | exact P11 | exact P12 | exact P13 | exact P14 | exact P15 | exact P16 | exact P17 | exact P18 | exact P19 | exact P20 | exact P21 | exact P22 | exact P23)) | (apply Part.flat; simp only [List.cons_append, List.nil_append]) | (apply Part.nilc))) ?_
  refine SPO_h rfl (y_load Tryz.isAgg185 rfl (by repeat (first | exact Cell.head rfl | apply Cell.tail))) rfl ?_
  refine SPO_h rfl (y_load Tryz.isAgg185 rfl (by repeat (first | exact Cell.head rfl | apply Cell.tail))) rfl ?_
  refine SPO_p rfl (y_nil rfl) rfl ?_
  refine SPO_p rfl (y_fa fld_191_4 rfl) rfl ?_
  refine SPO_h rfl (y_load Tryz.isAgg106 rfl (by repeat (first | exact Cell.head rfl | apply Cell.tail))) rfl ?_
  refine SPO_h rfl (y_loads Tryz.isAgg181 Tryz.sizeOf181 rfl rfl (by repeat (first | exact Cells.all _ | exact Cells.head rfl | apply Cells.tail))) rfl ?_
  refine SPO_a rfl rfl (SP1_slice1 el_106 rfl rfl rfl rfl rfl ?_)
  intro b17
  refine ⟨⟨_, (by repeat (first | exact Part.nil _ | (apply Part.cons; (first | exact P0 | exact P1 | exact P2 | exact P3 | exact P4 | exact P5 | exact P6 | exact P7 | exact P8 | exact P9 | exact P10 | exact P11 | exact P12 | exact P13 | exact P14 | exact P15 | exact P16 | exact P17 | exact P18 | exact P19 | exact P20 | exact P21 | exact P22 | exact P23)) | (apply Part.flat; simp only [List.cons_append, List.nil_append]) | (apply Part.nilc)))⟩, ?_⟩
  refine SPO_a rfl rfl (SP1_append el_106 (.inl Tryz.underlying106) rfl rfl hcd (by first | exact P0 | exact P1 | exact P2 | exact P3 | exact P4 | exact P5 | exact P6 | exact P7 | exact P8 | exact P9 | exact P10 | exact P11 | exact P12 | exact P13 | exact P14 | exact P15 | exact P16 | exact P17 | exact P18 | exact P19 | exact P20 | exact P21 | exact P22 | exact P23) (Src.of (by repeat (first | exact Cells.all _ | exact Cells.head rfl | apply Cells.tail)) (by rfl)) (by rfl) (by omega) rfl ?_)
  intro a1 c1 s1 h1
  refine ⟨⟨_, (by repeat (first | exact Part.nil _ | (apply Part.cons; (first | exact P0 | exact P1 | exact P2 | exact P3 | exact P4 | exact P5 | exact P6 | exact P7 | exact P8 | exact P9 | exact P10 | exact P11 | exact P12 | exact P13 | exact P14 | exact P15 | exact P16 | exact P17 | exact P18 | exact P19 | exact P20 | exact P21 | exact P22 | exact P23)) | (apply Part.flat; simp only [List.cons_append, List.nil_append]) | (apply Part.nilc)))⟩, ?_⟩
  refine SPO_p rfl (y_nil rfl) rfl ?_
  refine SPO_p rfl (y_fa fld_191_4 rfl) rfl ?_
  refine SPO_z (k := 0) rfl rfl (SP1_store Tryz.sizeOf106 rfl rfl rfl (by first | exact U0 | exact U1 | exact U2 | exact U3 | exact U4 | exact U5 | exact U6 | exact U7 | exact U8 | exact U9 | exact U10 | exact U11 | exact U12 | exact U13 | exact U14 | exact U15 | exact U16 | exact U17 | exact U18 | exact U19 | exact U20 | exact U21 | exact U22 | exact U23) (by rfl) ?_)
  refine SPO_nil ?_
  refine thenP_n ?_
  refine SP_seq ?_
  refine SP_region ?_
  refine SPL_y (y_mkf rfl rfl) rfl ?_
  refine SPL_y (y_assign rfl) rfl ?_
  refine SPL_nil ?_
  refine thenP_n ?_
  refine SP_ret ?_
  refine bodyP_ret (H' := [blk k 191 [pv, uv, tv, ov, .slice a1 (code.length + 1) c1, mv], s1, blk b2 185 [.pointer (some ⟨k, 0, none⟩)], blk b5 3 [I code.length]]) (Res1 rfl rfl) (by repeat (first | exact Part.nil _ | (apply Part.cons; (first | exact P0 | exact P1 | exact P2 | exact P3 | exact P4 | exact P5 | exact P6 | exact P7 | exact P8 | exact P9 | exact P10 | exact P11 | exact P12 | exact P13 | exact P14 | exact P15 | exact P16 | exact P17 | exact P18 | exact P19 | exact P20 | exact P21 | exact P22 | exact P23)) | (apply Part.flat; simp only [List.cons_append, List.nil_append]) | (apply Part.nilc))) ?_
  exact ⟨a1, c1, s1, b2, b5, rfl, rfl, by simpa using h1⟩

theorem prep_fill (k : Nat) (pv uv tv ov mv : Value) (ca : Option Addr) (n cc : Nat) (code : List Flat) (cd : Seg) (a : Nat) (t : Int) (kc acc : Nat) (hn : code.length = n) (hcd : Arr 181 4 ca n cc (code.flatMap flatV) cd) (ha : a < n) : Spec Tryz.prog 151 [I t, .pointer (some ⟨kc, 0, none⟩), .pointer (some ⟨acc, 0, none⟩)] [blk k 191 [pv, uv, tv, ov, .slice ca n cc, mv], cd, blk kc 185 [.pointer (some ⟨k, 0, none⟩)], blk acc 3 [I a]] (Ret fun v H => ∃ s1, v = .tuple #[] ∧ H = [blk k 191 [pv, uv, tv, ov, .slice ca n cc, mv], s1, blk kc 185 [.pointer (some ⟨k, 0, none⟩)], blk acc 3 [I a]] ∧ Arr 181 4 ca n cc ((code.modify a fun f => { f with imm := t }).flatMap flatV) s1) := by
  subst hn
  have hla : ((code.take a).flatMap flatV).length = a * 4 := by rw [flat_len flatV_len, List.length_take, Nat.min_eq_left (by omega)]
  rw [flat_split flatV ha] at hcd
  obtain ⟨bo, spo, rfl, hoc, hspo, rfl⟩ := hcd.row (by omega)
  refine Spec_enter Tryz.func151 rfl Tryz.ntmps151 rfl ?_
  show SP _ _ _ _ _ [(0, _), (1, _), (2, _)] _
  refine SP_draw 8 [(5, 0), (0, 1), (1, 0), (2, 0), (3, 1), (4, 1), (6, 0), (7, 0), (8, 3)] mixed (by kernel_rfl) (fun _ _ _ _ _ h => h) (Part.refl _) ?_
  refine SPO_p rfl (y_move rfl) rfl ?_
  refine SPO_h rfl (y_load Tryz.isAgg185 rfl (by repeat (first | exact Cell.head rfl | apply Cell.tail))) rfl ?_
  refine SPO_p rfl (y_nil rfl) rfl ?_
  refine SPO_p rfl (y_fa fld_191_4 rfl) rfl ?_
  refine SPO_h rfl (y_load Tryz.isAgg106 rfl (by repeat (first | exact Cell.head rfl | apply Cell.tail))) rfl ?_
  refine SPO_h rfl (y_load Tryz.isAgg3 rfl (by repeat (first | exact Cell.head rfl | apply Cell.tail))) rfl ?_
  refine SPO_p rfl (y_ia Tryz.underlying106 Tryz.sizeOf181 rfl rfl (by omega)) rfl ?_
  refine SPO_p rfl (y_fa fld_181_1 rfl) rfl ?_
  refine SPO_z (k := 0) rfl rfl (SP1_store Tryz.sizeOf3 rfl rfl rfl (by first | exact U0 | exact U1 | exact U2 | exact U3 | exact U4 | exact U5 | exact U6 | exact U7 | exact U8 | exact U9 | exact U10 | exact U11 | exact U12 | exact U13 | exact U14 | exact U15 | exact U16 | exact U17 | exact U18 | exact U19 | exact U20 | exact U21 | exact U22 | exact U23) (ble_of (by have := hcd.1; simp at this ⊢; omega)) ?_)
  rw [mid_set (q := 1) (i := a) rfl hla (by simp [flatV])]
  simp only [flatV, List.set_cons_succ, List.set_cons_zero]
  refine SPO_nil ?_
  refine bodyP_end (H' := [blk k 191 [pv, uv, tv, ov, .slice (some ⟨bo, 0, none⟩) code.length cc, mv], blk bo 181 ((code.take a).flatMap (fun c => [I c.op, I c.imm, I c.keep, I c.cut]) ++ [I code[a].op, I t, I code[a].keep, I code[a].cut] ++ (code.drop (a + 1)).flatMap (fun c => [I c.op, I c.imm, I c.keep, I c.cut]) ++ spo), blk kc 185 [.pointer (some ⟨k, 0, none⟩)], blk acc 3 [I a]]) (Res0 rfl) (by repeat (first | exact Part.nil _ | (apply Part.cons; (first | exact P0 | exact P1 | exact P2 | exact P3 | exact P4 | exact P5 | exact P6 | exact P7 | exact P8 | exact P9 | exact P10 | exact P11 | exact P12 | exact P13 | exact P14 | exact P15 | exact P16 | exact P17 | exact P18 | exact P19 | exact P20 | exact P21 | exact P22 | exact P23)) | (apply Part.flat; simp only [List.cons_append, List.nil_append]) | (apply Part.nilc))) ?_
  refine ⟨_, rfl, rfl, ?_⟩
  rw [flat_modify flatV _ ha]
  exact hcd.mid hoc hspo rfl

theorem prep_jump (k : Nat) (pv uv mv : Value) (oa : Option Addr) (C : Chk) (s : Seg) (op : Int) (l : Nat) (hm : isChk k pv uv mv oa C s) (hl : l < C.opn.length) (hz : C.st.length ≤ 1000000 ∧ C.opn.length ≤ 1000000 ∧ C.code.length ≤ 1000000) (hw : ∀ b, b ∈ C.opn → b.wait.length ≤ 1000000) : Spec Tryz.prog 145 [.pointer (some ⟨k, 0, none⟩), I op, I l] [s] (Ret fun v H => ∃ s', v = S (jump C op l).2 ∧ H = [s'] ∧ isChk k pv uv mv oa (jump C op l).1 s') := by
  obtain ⟨ta, tc, oc, ca, cc, st, so, sb, cd, cs, rfl, hst, hop, hob, hcd⟩ := hm
  refine Spec_flat ?_
  simp only [List.cons_append, List.nil_append]
  refine Spec_enter Tryz.func145 rfl Tryz.ntmps145 rfl ?_
  show SP _ _ _ _ _ [(0, _), (1, _), (2, _)] _
  refine SP_seq ?_
  refine SP_region ?_
  refine SPL_y (y_assign rfl) rfl ?_
  refine SPL_nil ?_
  refine thenP_n ?_
  refine SP_seq ?_
  obtain ⟨bo, spo, hbo, hoc, hspo, rfl⟩ := hop.row (by omega)
  obtain rfl := hbo
  obtain ⟨la, c7, lb, s1, sv, s2, rfl, hla, rfl, hbk, hpre, hput⟩ := hob.get (i := C.opn.length - 1 - l) (by omega)
  obtain ⟨b, hb⟩ : ∃ b, C.opn[C.opn.length - 1 - l] = b := ⟨_, rfl⟩
  rw [hb] at hbk
  obtain ⟨fa, wa, wc, vs, sa, sw, sh, rfl, rfl, halt, hwa, hho⟩ := hbk
  have hbl : b.wait.length ≤ 1000000 := hw b (by rw [← hb]; exact List.getElem_mem _)
  have hbd : C.opn.getD (C.opn.length - 1 - l) Blk.nil = b := by rw [List.getD_eq_getElem?_getD, List.getElem?_eq_getElem (by omega), hb]; rfl
  refine SP_draw 999 [(0, 0), (1, 0), (2, 0), (4, 0), (5, 0), (6, 0), (10, 0), (3, 1), (7, 1), (8, 0), (9, 0), (11, 0), (12, 0), (13, 0)] mixed (by kernel_rfl) (fun _ _ _ _ _ h => h) (Part.refl _) ?_
  refine SPO_p rfl (y_move rfl) rfl ?_
  refine SPO_p rfl (y_nil rfl) rfl ?_
  refine SPO_p rfl (y_fa fld_191_3 rfl) rfl ?_
  refine SPO_p rfl (y_move rfl) rfl ?_
  refine SPO_p rfl (y_nil rfl) rfl ?_
  refine SPO_p rfl (y_fa fld_191_3 rfl) rfl ?_
  refine SPO_p rfl (y_move rfl) rfl ?_
  refine SPO_h rfl (y_load Tryz.isAgg188 rfl (by repeat (first | exact Cell.head rfl | apply Cell.tail))) rfl ?_
  refine SPO_h rfl (y_load Tryz.isAgg188 rfl (by repeat (first | exact Cell.head rfl | apply Cell.tail))) rfl ?_
  refine SPO_p rfl (y_len_l Tryz.underlying188 rfl) rfl ?_
  refine SPO_p rfl (y_sub rfl rfl (by omega)) rfl ?_
  refine SPO_p rfl (y_sub rfl rfl (by omega)) rfl ?_
  refine SPO_p rfl (y_ia Tryz.underlying188 Tryz.sizeOf230 rfl rfl (by omega)) rfl ?_
  refine SPO_p rfl (y_assign rfl) rfl ?_
  refine SPO_nil ?_
  refine thenP_n ?_
  refine SP_seq ?_
  refine SP_draw 16 [(0, 0), (1, 0), (2, 0), (3, 0), (4, 0), (6, 0), (7, 0), (8, 0), (11, 0), (12, 0), (13, 0), (5, 1), (9, 1), (10, 0), (14, 1), (15, 0), (16, 3), (17, 0)] mixed (by kernel_rfl) (fun _ _ _ _ _ h => h) (Part.refl _) ?_
  refine SPO_p rfl (y_move rfl) rfl ?_
  refine SPO_p rfl (y_move rfl) rfl ?_
  refine SPO_p rfl (y_move rfl) rfl ?_
  refine SPO_p rfl (y_nil rfl) rfl ?_
  refine SPO_p rfl (y_fa fld_230_3 rfl) rfl ?_
  refine SPO_p rfl (y_move rfl) rfl ?_
  refine SPO_p rfl (y_nil rfl) rfl ?_
  refine SPO_p rfl (y_fa fld_230_1 rfl) rfl ?_
  refine SPO_p rfl (y_move rfl) rfl ?_
  refine SPO_p rfl (y_nil rfl) rfl ?_
  refine SPO_p rfl (y_fa fld_230_2 rfl) rfl ?_
  refine SPO_h rfl (y_load Tryz.isAgg3 rfl (by repeat (first | exact mid_cell (q := 3) (i := C.opn.length - 1 - l) (by omega) hla rfl | apply Cell.tail))) rfl ?_
  refine SPO_h rfl (y_load Tryz.isAgg9 rfl (by repeat (first | exact mid_cell (q := 1) (i := C.opn.length - 1 - l) (by omega) hla rfl | apply Cell.tail))) rfl ?_
  refine SPO_p rfl (y_len_s Tryz.underlying9 rfl) rfl ?_
  refine SPO_h rfl (y_load Tryz.isAgg3 rfl (by repeat (first | exact mid_cell (q := 2) (i := C.opn.length - 1 - l) (by omega) hla rfl | apply Cell.tail))) rfl ?_
  refine SPO_p rfl (y_build B181 rfl rfl (by simp only [fillL, List.foldl_cons, List.foldl_nil, List.set_cons_zero, List.set_cons_succ]; exact rfl)) rfl ?_
  refine SPO_z (k := 0) rfl rfl (SP1_call (prep_hole k pv uv _ _ mv _ _ C.code _ ⟨op, b.head, b.carry.length, b.height⟩ hcd hz.2.2) Tryz.call143 rfl rfl (by repeat (first | exact Part.nil _ | (apply Part.cons; (first | exact P0 | exact P1 | exact P2 | exact P3 | exact P4 | exact P5 | exact P6 | exact P7 | exact P8 | exact P9 | exact P10 | exact P11 | exact P12 | exact P13 | exact P14 | exact P15 | exact P16 | exact P17 | exact P18 | exact P19 | exact P20 | exact P21 | exact P22 | exact P23)) | (apply Part.flat; simp only [List.cons_append, List.nil_append]) | (apply Part.nilc))) ?_)
  rintro hv post H' ⟨ca1, cc1, cd1, kc, acc, rfl, rfl, hcd1⟩ hH
  try simp only [List.cons_append, List.nil_append] at hH
  subst hH
  refine SPO_p rfl (y_assign rfl) rfl ?_
  refine SPO_nil ?_
  refine thenP_n ?_
  refine SP_seq ?_
  refine SP_seq ?_
  refine SP_region ?_
  refine SPL_y (y_move rfl) rfl ?_
  refine SPL_y (y_nil rfl) rfl ?_
  refine SPL_y (y_fa fld_230_3 rfl) rfl ?_
  refine SPL_y (y_load Tryz.isAgg3 rfl (by repeat (first | exact mid_cell (q := 3) (i := C.opn.length - 1 - l) (by omega) hla rfl | apply Cell.tail))) rfl ?_
  refine SPL_ifn (y_lss rfl rfl) rfl ?_ ?_
  · intro h3_4
    refine SPL_nil ?_
    refine thenP_n ?_
    refine SP_cond_f rfl ?_
    refine SP_skip ?_
    refine thenP_n ?_
    refine SP_seq ?_
    refine SP_region ?_
    refine SPL_y (y_move rfl) rfl ?_
    refine SPL_y (y_nil rfl) rfl ?_
    refine SPL_y (y_fa fld_230_1 rfl) rfl ?_
    refine SPL_y (y_load Tryz.isAgg9 rfl (by repeat (first | exact mid_cell (q := 1) (i := C.opn.length - 1 - l) (by omega) hla rfl | apply Cell.tail))) rfl ?_
    refine SPL_y (y_assign rfl) rfl ?_
    refine SPL_nil ?_
    refine thenP_n ?_
    refine SP_ret ?_
    refine bodyP_ret (H' := [List.flatten [blk k 191 [pv, uv, .slice ta C.st.length tc, .slice (some ⟨bo, 0, none⟩) C.opn.length oc, .slice ca1 (C.code.length + 1) cc1, mv], st, blk bo 230 (la ++ [S b.res, S b.carry, I b.height, I b.head, .bool b.dead, fa, .slice wa b.wait.length wc] ++ lb ++ spo), List.flatten [s1, List.flatten [sa, sw, sh], s2], cd1]]) (Res1 rfl rfl) (by repeat (first | exact Part.nil _ | (apply Part.cons; (first | exact P0 | exact P1 | exact P2 | exact P3 | exact P4 | exact P5 | exact P6 | exact P7 | exact P8 | exact P9 | exact P10 | exact P11 | exact P12 | exact P13 | exact P14 | exact P15 | exact P16 | exact P17 | exact P18 | exact P19 | exact P20 | exact P21 | exact P22 | exact P23)) | (apply Part.flat; simp only [List.cons_append, List.nil_append]) | (apply Part.nilc))) ?_
    have e : jump C op l = (hole C ⟨op, b.head, b.carry.length, b.height⟩, b.carry) := by unfold jump; dsimp only; rw [hbd, if_neg (by omega)]
    rw [e]
    exact ⟨_, rfl, rfl, isChk.intro rfl rfl (by simp [hole]) hst hop hob hcd1⟩
  intro h3_4
  refine SPL_nil ?_
  refine thenP_n ?_
  refine SP_cond_t rfl ?_
  refine SP_open (pre := [s1, List.flatten [sa, sw, sh], s2]) (by first | exact P0 | exact P1 | exact P2 | exact P3 | exact P4 | exact P5 | exact P6 | exact P7 | exact P8 | exact P9 | exact P10 | exact P11 | exact P12 | exact P13 | exact P14 | exact P15 | exact P16 | exact P17 | exact P18 | exact P19 | exact P20 | exact P21 | exact P22 | exact P23) ?_
  simp only [List.cons_append, List.nil_append]
  refine SP_open (pre := [sa, sw, sh]) (by first | exact P0 | exact P1 | exact P2 | exact P3 | exact P4 | exact P5 | exact P6 | exact P7 | exact P8 | exact P9 | exact P10 | exact P11 | exact P12 | exact P13 | exact P14 | exact P15 | exact P16 | exact P17 | exact P18 | exact P19 | exact P20 | exact P21 | exact P22 | exact P23) ?_
  simp only [List.cons_append, List.nil_append]
  refine SP_region ?_
  refine SPL_y (y_move rfl) rfl ?_
  refine SPL_y (y_move rfl) rfl ?_
  refine SPL_y (y_nil rfl) rfl ?_
  refine SPL_y (y_fa fld_230_6 rfl) rfl ?_
  refine SPL_y (y_load Tryz.isAgg228 rfl (by repeat (first | exact mid_cell (q := 6) (i := C.opn.length - 1 - l) (by omega) hla rfl | apply Cell.tail))) rfl ?_
  refine SPL_y (y_move rfl) rfl ?_
  refine SPL_one rfl (SP1_slice1 el_228 rfl rfl rfl rfl rfl ?_)
  intro b50
  refine SPL_one rfl (SP1_append el_228 (.inl Tryz.underlying228) rfl rfl hwa (by first | exact P0 | exact P1 | exact P2 | exact P3 | exact P4 | exact P5 | exact P6 | exact P7 | exact P8 | exact P9 | exact P10 | exact P11 | exact P12 | exact P13 | exact P14 | exact P15 | exact P16 | exact P17 | exact P18 | exact P19 | exact P20 | exact P21 | exact P22 | exact P23) (Src.of (by repeat (first | exact Cells.all _ | exact Cells.head rfl | apply Cells.tail)) (by rfl)) (by rfl) (by omega) rfl ?_)
  intro a1 c1 w1 h1
  refine SPL_y (y_nil rfl) rfl ?_
  refine SPL_y (y_fa fld_230_6 rfl) rfl ?_
  refine SPL_one rfl (SP1_store Tryz.sizeOf228 rfl rfl rfl (by first | exact U0 | exact U1 | exact U2 | exact U3 | exact U4 | exact U5 | exact U6 | exact U7 | exact U8 | exact U9 | exact U10 | exact U11 | exact U12 | exact U13 | exact U14 | exact U15 | exact U16 | exact U17 | exact U18 | exact U19 | exact U20 | exact U21 | exact U22 | exact U23) (ble_of (by have := hop.1; simp at this ⊢; omega)) ?_)
  rw [mid_set (q := 6) (i := C.opn.length - 1 - l) (by omega) hla (by simp)]
  simp only [List.set_cons_succ, List.set_cons_zero]
  refine SPL_nil ?_
  refine thenP_n ?_
  refine SP_seq ?_
  refine SP_region ?_
  refine SPL_y (y_move rfl) rfl ?_
  refine SPL_y (y_nil rfl) rfl ?_
  refine SPL_y (y_fa fld_230_1 rfl) rfl ?_
  refine SPL_y (y_load Tryz.isAgg9 rfl (by repeat (first | exact mid_cell (q := 1) (i := C.opn.length - 1 - l) (by omega) hla rfl | apply Cell.tail))) rfl ?_
  refine SPL_y (y_assign rfl) rfl ?_
  refine SPL_nil ?_
  refine thenP_n ?_
  refine SP_ret ?_
  refine bodyP_ret (H' := [List.flatten [blk k 191 [pv, uv, .slice ta C.st.length tc, .slice (some ⟨bo, 0, none⟩) C.opn.length oc, .slice ca1 (C.code.length + 1) cc1, mv], st, blk bo 230 (la ++ [S b.res, S b.carry, I b.height, I b.head, .bool b.dead, fa, .slice a1 (b.wait.length + 1) c1] ++ lb ++ spo), List.flatten [s1, List.flatten [sa, w1, List.flatten [sh, List.flatten [blk kc 185 [.pointer (some ⟨k, 0, none⟩)], blk acc 3 [I C.code.length]]]], s2], cd1]]) (Res1 rfl rfl) (by repeat (first | exact Part.nil _ | (apply Part.cons; (first | exact P0 | exact P1 | exact P2 | exact P3 | exact P4 | exact P5 | exact P6 | exact P7 | exact P8 | exact P9 | exact P10 | exact P11 | exact P12 | exact P13 | exact P14 | exact P15 | exact P16 | exact P17 | exact P18 | exact P19 | exact P20 | exact P21 | exact P22 | exact P23)) | (apply Part.flat; simp only [List.cons_append, List.nil_append]) | (apply Part.nilc))) ?_
  have e : jump C op l = ({ hole C ⟨op, b.head, b.carry.length, b.height⟩ with opn := C.opn.set (C.opn.length - 1 - l) { b with wait := b.wait ++ [C.code.length] } }, b.carry) := by unfold jump; dsimp only; rw [hbd, if_pos (by omega)]; rfl
  rw [e]
  exact ⟨_, rfl, rfl, isChk.intro rfl (by simp [hole]) (by simp [hole]) hst (hop.mid hoc hspo rfl) (hput _ _ _ ⟨fa, a1, c1, _, sa, w1, _, by simp, rfl, halt, by simpa using h1, hho.snoc ⟨kc, acc, rfl, rfl⟩⟩) hcd1⟩

end Go.Sl
