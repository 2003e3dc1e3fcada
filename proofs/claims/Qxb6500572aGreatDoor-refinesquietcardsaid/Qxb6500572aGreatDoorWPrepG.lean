/- Walks: package prep, tables (made by program out of short notes) -/
import Derived.Test.Qxb6500572aGreatDoorWPrepF
namespace Go.Sl
open Go Go.Wl Go.Proofs
set_option maxRecDepth 100000
set_option linter.unusedVariables false
set_option linter.unusedSimpArgs false
theorem jumps_snoc : ∀ (l : List UInt8) (C : Chk) (t : UInt8), jumps C (l ++ [t]) = (jump (jumps C l) 6 t.toNat).1
  | [], C, t => rfl
  | x :: l, C, t => by
    show jumps (jump C 6 x.toNat).1 (l ++ [t]) = _
    rw [jumps_snoc l]; rfl
theorem jumps_facts : ∀ (l : List UInt8) (C : Chk) (n : Nat), (∀ b, b ∈ C.opn → b.wait.length ≤ n) → (jumps C l).st = C.st ∧ (jumps C l).opn.map Blk.strip = C.opn.map Blk.strip ∧ (jumps C l).code.length = C.code.length + l.length ∧ ∀ b, b ∈ (jumps C l).opn → b.wait.length ≤ n + l.length
  | [], C, n, h => ⟨rfl, rfl, rfl, h⟩
  | x :: l, C, n, h => by
    obtain ⟨h1, h2, h3, h4⟩ := jumps_facts l (jump C 6 x.toNat).1 (n + 1) (jump_waits h)
    show (jumps (jump C 6 x.toNat).1 l).st = _ ∧ (jumps (jump C 6 x.toNat).1 l).opn.map _ = _ ∧ (jumps (jump C 6 x.toNat).1 l).code.length = _ ∧ ∀ b, b ∈ (jumps (jump C 6 x.toNat).1 l).opn → _
    refine ⟨h1.trans (jump_st ..), h2.trans (jump_strip ..), ?_, fun b hb => ?_⟩
    · rw [h3, jump_code, List.length_cons]; omega
    · have := h4 b hb; rw [List.length_cons]; omega
theorem jump_car (C : Chk) (op : Int) (l : Nat) : (jump C op l).2 = (C.opn.getD (C.opn.length - 1 - l) Blk.nil).carry := rfl
theorem sames_snoc (C : Chk) (d : List UInt8) (l : List UInt8) (t : UInt8) : sames C d (l ++ [t]) = (sames C d l && decide ((C.opn.getD (C.opn.length - 1 - t.toNat) Blk.nil).carry = d)) := by
  simp [sames, List.all_append]

theorem prep_table (k : Nat) (pv uv mv : Value) (oa : Option Addr) (C : Chk) (s : Seg) (c : Ins) (hm : isChk k pv uv mv oa C s) (hN : 0 < C.opn.length) (hht : C.top.height ≤ C.st.length) (hz : C.st.length ≤ 100000 ∧ C.opn.length ≤ 100000 ∧ C.code.length ≤ 100000) (hw : ∀ b, b ∈ C.opn → b.wait.length ≤ 1000) (hcar : ∀ b, b ∈ C.opn → b.carry.length ≤ 100) (ht1 : 1 ≤ c.tab.length) (ht2 : c.tab.length ≤ 100) : Spec Tryz.prog 120 [.pointer (some ⟨k, 0, none⟩), .agg (insV c).toArray] [s] (Ret fun v H => ∃ s', v = I (table C c).2 ∧ H = [s'] ∧ isChk k pv uv mv oa (table C c).1 s') := by
  obtain ⟨ta, tc, oc, ca, cc, st, so, sb, cd, cs, rfl, hst, hop, hob, hcd⟩ := hm
  refine Spec_flat ?_
  simp only [List.cons_append, List.nil_append]
  refine Spec_enter Tryz.func120 rfl Tryz.ntmps120 rfl ?_
  show SP _ _ _ _ _ [(0, _), (1, _)] _
  refine SP_seq ?_
  refine SP_region ?_
  refine SPL_one rfl (SP1_box rfl rfl rfl ?_)
  intro b3
  refine SPL_y (y_assign rfl) rfl ?_
  refine SPL_nil ?_
  refine thenP_n ?_
  refine SP_seq ?_
  refine SP_seq ?_
  refine SP_region ?_
  refine SPL_y (y_fa fld_87_2 rfl) rfl ?_
  refine SPL_y (y_load Tryz.isAgg9 rfl (by repeat (first | exact Cell.head rfl | apply Cell.tail))) rfl ?_
  refine SPL_y (y_len_s Tryz.underlying9 rfl) rfl ?_
  refine SPL_y (y_move rfl) rfl ?_
  refine SPL_nil ?_
  refine thenP_n ?_
  refine SP_block ?_
  refine SP_loop (G := Nat) (fun j => c.tab.length - j) (fun j => [(0, .pointer (some ⟨k, 0, none⟩)), (3, .pointer (some ⟨b3, 0, none⟩)), (13, I c.tab.length), (14, I (j : Nat))]) (fun _ => [blk k 191 [pv, uv, .slice ta C.st.length tc, .slice oa C.opn.length oc, .slice ca C.code.length cc, mv], st, so, sb, cd, blk b3 87 [I c.op, I c.imm, S c.tab]]) (fun j => j ≤ c.tab.length ∧ ∀ i (h : i < c.tab.length), i < j → c.tab[i].toNat < C.opn.length) (0) (⟨Nat.zero_le _, fun _ _ h => by omega⟩) (by repeat (first | exact Sub.nil _ | refine Sub.cons rfl ?_)) (by repeat (first | exact Part.nil _ | (apply Part.cons; (first | exact P0 | exact P1 | exact P2 | exact P3 | exact P4 | exact P5 | exact P6 | exact P7 | exact P8 | exact P9 | exact P10 | exact P11 | exact P12 | exact P13 | exact P14 | exact P15 | exact P16 | exact P17 | exact P18 | exact P19 | exact P20 | exact P21 | exact P22 | exact P23)) | (apply Part.flat; simp only [List.cons_append, List.nil_append]) | (apply Part.nilc))) ?_
  rintro j ⟨hj, hall⟩
  refine SP_seq ?_
  refine SP_region ?_
  refine SPL_if (y_lss rfl rfl) rfl ?_ ?_
  · intro h2_0
    refine SPL_nil ?_
    refine thenP_n ?_
    refine SP_seq ?_
    refine SP_cond_t rfl ?_
    refine SP_skip ?_
    refine thenP_n ?_
    refine SP_seq ?_
    refine SP_block ?_
    refine SP_seq ?_
    refine SP_region ?_
    refine SPL_y (y_move rfl) rfl ?_
    refine SPL_y (y_assign rfl) rfl ?_
    refine SPL_nil ?_
    refine thenP_n ?_
    refine SP_seq ?_
    have hjl : j < c.tab.length := by omega
    refine SP_draw 999 [(0, 0), (2, 0), (5, 0), (6, 0), (7, 0), (1, 1), (3, 0), (4, 0), (8, 1), (9, 0), (10, 0)] mixed (by kernel_rfl) (fun _ _ _ _ _ h => h) (Part.refl _) ?_
    refine SPO_p rfl (y_fa fld_87_2 rfl) rfl ?_
    refine SPO_p rfl (y_move rfl) rfl ?_
    refine SPO_p rfl (y_move rfl) rfl ?_
    refine SPO_p rfl (y_nil rfl) rfl ?_
    refine SPO_p rfl (y_fa fld_191_3 rfl) rfl ?_
    refine SPO_h rfl (y_load Tryz.isAgg9 rfl (by repeat (first | exact Cell.head rfl | apply Cell.tail))) rfl ?_
    refine SPO_p rfl (y_idx_s Tryz.underlying9 rfl rfl (by omega) (getN hjl)) rfl ?_
    refine SPO_p rfl (y_conv Tryz.underlying5 Tryz.underlying3 rfl (show IntKind.i64.wrap ((c.tab[j].toNat : Nat) : Int) = ((c.tab[j].toNat : Nat) : Int) from wrap_i64 (by omega) (by have := UInt8.toNat_lt c.tab[j]; omega))) rfl ?_
    refine SPO_h rfl (y_load Tryz.isAgg188 rfl (by repeat (first | exact Cell.head rfl | apply Cell.tail))) rfl ?_
    refine SPO_p rfl (y_len_l Tryz.underlying188 rfl) rfl ?_
    refine SPO_ifn rfl (y_geq rfl rfl) rfl ?_ ?_
    · intro h4_10
      refine SPO_nil ?_
      refine thenP_n ?_
      refine SP_cond_f rfl ?_
      refine SP_skip ?_
      refine inBlockP_n ?_
      refine thenP_n ?_
      refine SP_region ?_
      refine SPL_y (y_add rfl rfl (by omega)) rfl ?_
      refine SPL_y (y_move rfl) rfl ?_
      refine SPL_nil ?_
      refine thenP_n ?_
      exact Again.intro (j + 1) (⟨by omega, fun i h hi => by rcases Nat.lt_succ_iff_lt_or_eq.1 hi with h1 | h1; exact hall i h h1; subst h1; omega⟩) (by omega) (by repeat (first | exact Sub.nil _ | refine Sub.cons rfl ?_)) (by repeat (first | exact Part.nil _ | (apply Part.cons; (first | exact P0 | exact P1 | exact P2 | exact P3 | exact P4 | exact P5 | exact P6 | exact P7 | exact P8 | exact P9 | exact P10 | exact P11 | exact P12 | exact P13 | exact P14 | exact P15 | exact P16 | exact P17 | exact P18 | exact P19 | exact P20 | exact P21 | exact P22 | exact P23)) | (apply Part.flat; simp only [List.cons_append, List.nil_append]) | (apply Part.nilc)))
    intro h4_10
    refine SPO_nil ?_
    refine thenP_n ?_
    refine SP_cond_t rfl ?_
    refine SP_seq ?_
    refine SP_region ?_
    refine SPL_y (y_assign rfl) rfl ?_
    refine SPL_nil ?_
    refine thenP_n ?_
    refine SP_ret ?_
    refine inBlockP_ret (thenP_ret (thenP_ret (inBlockP_ret (thenP_ret (bodyP_ret (H' := [List.flatten [blk k 191 [pv, uv, .slice ta C.st.length tc, .slice oa C.opn.length oc, .slice ca C.code.length cc, mv], st, so, sb, cd]]) (Res1 rfl rfl) (by repeat (first | exact Part.nil _ | (apply Part.cons; (first | exact P0 | exact P1 | exact P2 | exact P3 | exact P4 | exact P5 | exact P6 | exact P7 | exact P8 | exact P9 | exact P10 | exact P11 | exact P12 | exact P13 | exact P14 | exact P15 | exact P16 | exact P17 | exact P18 | exact P19 | exact P20 | exact P21 | exact P22 | exact P23)) | (apply Part.flat; simp only [List.cons_append, List.nil_append]) | (apply Part.nilc))) ?_)))))
    have e : table C c = (C, 5) := by unfold table; rw [if_pos (by rw [List.any_eq_true]; exact ⟨_, List.getElem_mem hjl, by simp; omega⟩)]
    rw [e]
    exact ⟨_, rfl, rfl, isChk.intro rfl rfl rfl hst hop hob hcd⟩
  intro h2_0
  refine SPL_nil ?_
  refine thenP_n ?_
  refine SP_seq ?_
  refine SP_cond_f rfl ?_
  refine SP_exit ?_
  refine thenP_exit ?_
  refine thenP_exit ?_
  refine inBlockP_hit ?_
  refine thenP_n ?_
  refine SP_seq ?_
  refine SP_draw 11 [(0, 0), (1, 0), (2, 0), (3, 0), (5, 0), (4, 1), (6, 1), (7, 0), (8, 0), (9, 0), (10, 2), (11, 3), (12, 0), (13, 0), (14, 3)] mixed (by kernel_rfl) (fun _ _ _ _ _ h => h) (Part.refl _) ?_
  refine SPO_p rfl (y_move rfl) rfl ?_
  refine SPO_p rfl (y_move rfl) rfl ?_
  refine SPO_p rfl (y_nil rfl) rfl ?_
  refine SPO_p rfl (y_fa fld_191_4 rfl) rfl ?_
  refine SPO_p rfl (y_fa fld_87_2 rfl) rfl ?_
  refine SPO_h rfl (y_load Tryz.isAgg106 rfl (by repeat (first | exact Cell.head rfl | apply Cell.tail))) rfl ?_
  refine SPO_h rfl (y_load Tryz.isAgg9 rfl (by repeat (first | exact Cell.head rfl | apply Cell.tail))) rfl ?_
  refine SPO_p rfl (y_len_s Tryz.underlying9 rfl) rfl ?_
  refine SPO_p rfl (y_sub rfl rfl (by omega)) rfl ?_
  refine SPO_p rfl (y_build B181 rfl rfl (by simp only [fillL, List.foldl_cons, List.foldl_nil, List.set_cons_zero, List.set_cons_succ]; exact rfl)) rfl ?_
  refine SPO_a rfl rfl (SP1_slice1 el_106 rfl rfl rfl rfl rfl ?_)
  intro b39
  refine ⟨⟨_, (by repeat (first | exact Part.nil _ | (apply Part.cons; (first | exact P0 | exact P1 | exact P2 | exact P3 | exact P4 | exact P5 | exact P6 | exact P7 | exact P8 | exact P9 | exact P10 | exact P11 | exact P12 | exact P13 | exact P14 | exact P15 | exact P16 | exact P17 | exact P18 | exact P19 | exact P20 | exact P21 | exact P22 | exact P23)) | (apply Part.flat; simp only [List.cons_append, List.nil_append]) | (apply Part.nilc)))⟩, ?_⟩
  refine SPO_z (k := 0) rfl rfl (SP1_append el_106 (.inl Tryz.underlying106) rfl rfl hcd (by first | exact P0 | exact P1 | exact P2 | exact P3 | exact P4 | exact P5 | exact P6 | exact P7 | exact P8 | exact P9 | exact P10 | exact P11 | exact P12 | exact P13 | exact P14 | exact P15 | exact P16 | exact P17 | exact P18 | exact P19 | exact P20 | exact P21 | exact P22 | exact P23) (Src.of (by repeat (first | exact Cells.all _ | exact Cells.head rfl | apply Cells.tail)) (by rfl)) (by rfl) (by omega) rfl ?_)
  intro ca1 cc1 cd1 hcd0
  have hcd1 : Arr 181 4 ca1 (C.code.length + 1) cc1 ((hole C ⟨8, (c.tab.length : Int) - 1, 0, 0⟩).code.flatMap flatV) cd1 := by simp only [hole]; rw [List.flatMap_append]; exact hcd0
  refine SPO_p rfl (y_nil rfl) rfl ?_
  refine SPO_p rfl (y_fa fld_191_4 rfl) rfl ?_
  refine SPO_z (k := 0) rfl rfl (SP1_store Tryz.sizeOf106 rfl rfl rfl (by first | exact U0 | exact U1 | exact U2 | exact U3 | exact U4 | exact U5 | exact U6 | exact U7 | exact U8 | exact U9 | exact U10 | exact U11 | exact U12 | exact U13 | exact U14 | exact U15 | exact U16 | exact U17 | exact U18 | exact U19 | exact U20 | exact U21 | exact U22 | exact U23) (by rfl) ?_)
  refine SPO_nil ?_
  refine thenP_n ?_
  refine SP_seq ?_
  have hall2 : ∀ i (h : i < c.tab.length), c.tab[i].toNat < C.opn.length := fun i h => hall i h (by omega)
  have hlt := hall2 (c.tab.length - 1) (by omega)
  obtain ⟨tl, htl⟩ : ∃ x, c.tab[c.tab.length - 1] = x := ⟨_, rfl⟩
  rw [htl] at hlt
  obtain ⟨bo, spo, hbo, hoc, hspo, rfl⟩ := hop.row (by omega)
  obtain rfl := hbo
  obtain ⟨la, c7, lb, s1, sv, s2, rfl, hla, rfl, hbk, hpre, hput⟩ := hob.get (i := C.opn.length - 1 - tl.toNat) (by omega)
  obtain ⟨b, hb⟩ : ∃ b, C.opn[C.opn.length - 1 - tl.toNat] = b := ⟨_, rfl⟩
  rw [hb] at hbk
  obtain ⟨fa, wa, wc, vs, sa, sw, sh, rfl, rfl, halt, hwa, hho⟩ := hbk
  have hbm : b ∈ C.opn := by rw [← hb]; exact List.getElem_mem _
  have hbc := hcar b hbm
  refine SP_draw 999 [(0, 0), (1, 0), (2, 0), (4, 0), (5, 0), (6, 0), (10, 0), (12, 0), (3, 1), (7, 1), (8, 0), (9, 0), (11, 1), (13, 1), (14, 0), (15, 0), (16, 0), (17, 0), (18, 0), (19, 0), (20, 0), (21, 1), (22, 0)] mixed (by kernel_rfl) (fun _ _ _ _ _ h => h) (Part.refl _) ?_
  refine SPO_p rfl (y_move rfl) rfl ?_
  refine SPO_p rfl (y_nil rfl) rfl ?_
  refine SPO_p rfl (y_fa fld_191_3 rfl) rfl ?_
  refine SPO_p rfl (y_move rfl) rfl ?_
  refine SPO_p rfl (y_nil rfl) rfl ?_
  refine SPO_p rfl (y_fa fld_191_3 rfl) rfl ?_
  refine SPO_p rfl (y_fa fld_87_2 rfl) rfl ?_
  refine SPO_p rfl (y_fa fld_87_2 rfl) rfl ?_
  refine SPO_h rfl (y_load Tryz.isAgg188 rfl (by repeat (first | exact Cell.head rfl | apply Cell.tail))) rfl ?_
  refine SPO_h rfl (y_load Tryz.isAgg188 rfl (by repeat (first | exact Cell.head rfl | apply Cell.tail))) rfl ?_
  refine SPO_p rfl (y_len_l Tryz.underlying188 rfl) rfl ?_
  refine SPO_p rfl (y_sub rfl rfl (by omega)) rfl ?_
  refine SPO_h rfl (y_load Tryz.isAgg9 rfl (by repeat (first | exact Cell.head rfl | apply Cell.tail))) rfl ?_
  refine SPO_h rfl (y_load Tryz.isAgg9 rfl (by repeat (first | exact Cell.head rfl | apply Cell.tail))) rfl ?_
  refine SPO_p rfl (y_len_s Tryz.underlying9 rfl) rfl ?_
  refine SPO_p rfl (y_sub rfl rfl (by omega)) rfl ?_
  refine SPO_p rfl (y_idx_s Tryz.underlying9 rfl rfl (by omega) (show c.tab[((c.tab.length : Int) - 1).toNat]? = some tl by rw [show ((c.tab.length : Int) - 1).toNat = c.tab.length - 1 by omega, List.getElem?_eq_getElem (by omega), htl])) rfl ?_
  refine SPO_p rfl (y_conv Tryz.underlying5 Tryz.underlying3 rfl (show IntKind.i64.wrap ((tl.toNat : Nat) : Int) = ((tl.toNat : Nat) : Int) from wrap_i64 (by omega) (by have := UInt8.toNat_lt tl; omega))) rfl ?_
  refine SPO_p rfl (y_sub rfl rfl (by omega)) rfl ?_
  refine SPO_p rfl (y_ia Tryz.underlying188 Tryz.sizeOf230 rfl rfl (by omega)) rfl ?_
  refine SPO_p rfl (y_fa fld_230_1 rfl) rfl ?_
  refine SPO_h rfl (y_load Tryz.isAgg9 rfl (by repeat (first | exact mid_cell (q := 1) (i := C.opn.length - 1 - tl.toNat) (by omega) hla rfl | apply Cell.tail))) rfl ?_
  refine SPO_p rfl (y_assign rfl) rfl ?_
  refine SPO_nil ?_
  refine thenP_n ?_
  refine SP_seq ?_
  refine SP_region ?_
  refine SPL_y (y_assign rfl) rfl ?_
  refine SPL_nil ?_
  refine thenP_n ?_
  refine SP_seq ?_
  refine SP_seq ?_
  refine SP_region ?_
  refine SPL_y (y_fa fld_87_2 rfl) rfl ?_
  refine SPL_y (y_load Tryz.isAgg9 rfl (by repeat (first | exact Cell.head rfl | apply Cell.tail))) rfl ?_
  refine SPL_y (y_len_s Tryz.underlying9 rfl) rfl ?_
  refine SPL_y (y_move rfl) rfl ?_
  refine SPL_nil ?_
  refine thenP_n ?_
  refine SP_block ?_
  refine SP_loop (G := Nat × Bool × Chk × Seg) (fun g => c.tab.length - g.1) (fun g => [(0, .pointer (some ⟨k, 0, none⟩)), (3, .pointer (some ⟨b3, 0, none⟩)), (6, S b.carry), (7, .bool g.2.1), (67, I c.tab.length), (68, I g.1)]) (fun g => [g.2.2.2, blk b3 87 [I c.op, I c.imm, S c.tab]]) (fun g => g.1 ≤ c.tab.length ∧ g.2.1 = sames C b.carry (c.tab.take g.1) ∧ g.2.2.1 = jumps (hole C ⟨8, (c.tab.length : Int) - 1, 0, 0⟩) (c.tab.take g.1) ∧ isChk k pv uv mv (some ⟨bo, 0, none⟩) g.2.2.1 g.2.2.2) ((0, true, (hole C ⟨8, (c.tab.length : Int) - 1, 0, 0⟩), List.flatten [blk k 191 [pv, uv, .slice ta C.st.length tc, .slice (some ⟨bo, 0, none⟩) C.opn.length oc, .slice ca1 (C.code.length + 1) cc1, mv], st, blk bo 230 (la ++ [S b.res, S b.carry, I b.height, I b.head, .bool b.dead, fa, .slice wa b.wait.length wc] ++ lb ++ spo), List.flatten [s1, List.flatten [sa, sw, sh], s2], cd1])) (⟨Nat.zero_le _, rfl, rfl, isChk.intro rfl rfl (by simp [hole]) hst hop hob hcd1⟩) (by repeat (first | exact Sub.nil _ | refine Sub.cons rfl ?_)) (by repeat (first | exact Part.nil _ | (apply Part.cons; (first | exact P0 | exact P1 | exact P2 | exact P3 | exact P4 | exact P5 | exact P6 | exact P7 | exact P8 | exact P9 | exact P10 | exact P11 | exact P12 | exact P13 | exact P14 | exact P15 | exact P16 | exact P17 | exact P18 | exact P19 | exact P20 | exact P21 | exact P22 | exact P23)) | (apply Part.flat; simp only [List.cons_append, List.nil_append]) | (apply Part.nilc))) ?_
  rintro ⟨j, sm, Cj, sj⟩ ⟨hj, hsm, hCj, hmj⟩
  dsimp only at hj hsm hCj hmj ⊢
  obtain ⟨hf1, hf2, hf3, hf4⟩ := jumps_facts (c.tab.take j) (hole C ⟨8, (c.tab.length : Int) - 1, 0, 0⟩) 1000 hw
  rw [← hCj] at hf1 hf2 hf3 hf4
  have hf5 := strip_len hf2
  replace hf5 : Cj.opn.length = C.opn.length := hf5
  replace hf1 : Cj.st = C.st := hf1
  rw [show (hole C ⟨8, (c.tab.length : Int) - 1, 0, 0⟩).code.length = C.code.length + 1 from by simp [hole], List.length_take, Nat.min_eq_left hj] at hf3
  rw [List.length_take, Nat.min_eq_left hj] at hf4
  refine SP_seq ?_
  refine SP_region ?_
  refine SPL_if (y_lss rfl rfl) rfl ?_ ?_
  · intro h11_0
    refine SPL_nil ?_
    refine thenP_n ?_
    refine SP_seq ?_
    refine SP_cond_t rfl ?_
    refine SP_skip ?_
    refine thenP_n ?_
    refine SP_seq ?_
    refine SP_block ?_
    refine SP_seq ?_
    refine SP_region ?_
    refine SPL_y (y_move rfl) rfl ?_
    refine SPL_y (y_assign rfl) rfl ?_
    refine SPL_nil ?_
    refine thenP_n ?_
    refine SP_seq ?_
    have hjl : j < c.tab.length := by omega
    refine SP_region ?_
    refine SPL_y (y_move rfl) rfl ?_
    refine SPL_y (y_fa fld_87_2 rfl) rfl ?_
    refine SPL_y (y_load Tryz.isAgg9 rfl (by repeat (first | exact Cell.head rfl | apply Cell.tail))) rfl ?_
    refine SPL_y (y_move rfl) rfl ?_
    refine SPL_y (y_idx_s Tryz.underlying9 rfl rfl (by omega) (getN hjl)) rfl ?_
    refine SPL_y (y_conv Tryz.underlying5 Tryz.underlying3 rfl (show IntKind.i64.wrap ((c.tab[j].toNat : Nat) : Int) = ((c.tab[j].toNat : Nat) : Int) from wrap_i64 (by omega) (by have := UInt8.toNat_lt c.tab[j]; omega))) rfl ?_
    refine SPL_one rfl (SP1_call (prep_jump k pv uv mv (some ⟨bo, 0, none⟩) Cj sj 6 c.tab[j].toNat hmj (by rw [hf5]; exact hall2 j hjl) ⟨by rw [hf1]; omega, by rw [hf5]; omega, by omega⟩ (fun x hx => by have := hf4 x hx; omega)) Tryz.call145 rfl rfl (by repeat (first | exact Part.nil _ | (apply Part.cons; (first | exact P0 | exact P1 | exact P2 | exact P3 | exact P4 | exact P5 | exact P6 | exact P7 | exact P8 | exact P9 | exact P10 | exact P11 | exact P12 | exact P13 | exact P14 | exact P15 | exact P16 | exact P17 | exact P18 | exact P19 | exact P20 | exact P21 | exact P22 | exact P23)) | (apply Part.flat; simp only [List.cons_append, List.nil_append]) | (apply Part.nilc))) ?_)
    rintro v post H' ⟨s5, rfl, rfl, hm5⟩ hH
    try simp only [List.cons_append, List.nil_append] at hH
    subst hH
    refine SPL_y (y_assign rfl) rfl ?_
    refine SPL_nil ?_
    refine thenP_n ?_
    refine SP_region ?_
    refine SPL_y (y_move rfl) rfl ?_
    rcases sm with _ | _
    · refine SPL_y (y_move rfl) rfl ?_
      refine SPL_gn rfl rfl rfl rfl ?_
      refine SPL_gn rfl rfl rfl rfl ?_
      refine SPL_gn rfl rfl rfl rfl ?_
      refine SPL_y (y_pick_f rfl rfl) rfl ?_
      refine SPL_y (y_assign rfl) rfl ?_
      refine SPL_nil ?_
      refine inBlockP_n ?_
      refine thenP_n ?_
      refine SP_region ?_
      refine SPL_y (y_add rfl rfl (by omega)) rfl ?_
      refine SPL_y (y_move rfl) rfl ?_
      refine SPL_nil ?_
      refine thenP_n ?_
      exact Again.intro ((j + 1, false, (jump Cj 6 c.tab[j].toNat).1, s5)) (⟨by dsimp only; omega, by dsimp only; rw [List.take_succ_eq_append_getElem hjl, sames_snoc, ← hsm]; rfl, by dsimp only; rw [List.take_succ_eq_append_getElem hjl, jumps_snoc, ← hCj], hm5⟩) (by simp only []; omega) (by repeat (first | exact Sub.nil _ | refine Sub.cons rfl ?_)) (by repeat (first | exact Part.nil _ | (apply Part.cons; (first | exact P0 | exact P1 | exact P2 | exact P3 | exact P4 | exact P5 | exact P6 | exact P7 | exact P8 | exact P9 | exact P10 | exact P11 | exact P12 | exact P13 | exact P14 | exact P15 | exact P16 | exact P17 | exact P18 | exact P19 | exact P20 | exact P21 | exact P22 | exact P23)) | (apply Part.flat; simp only [List.cons_append, List.nil_append]) | (apply Part.nilc)))
    · refine SPL_y (y_move rfl) rfl ?_
      refine SPL_gy rfl rfl ?_
      refine SPL_y (y_move rfl) rfl ?_
      refine SPL_gy rfl rfl ?_
      refine SPL_y (y_move rfl) rfl ?_
      refine SPL_gy rfl rfl ?_
      refine SPL_y (y_seq rfl rfl) rfl ?_
      refine SPL_y (y_pick_t rfl rfl) rfl ?_
      refine SPL_y (y_assign rfl) rfl ?_
      refine SPL_nil ?_
      refine inBlockP_n ?_
      refine thenP_n ?_
      refine SP_region ?_
      refine SPL_y (y_add rfl rfl (by omega)) rfl ?_
      refine SPL_y (y_move rfl) rfl ?_
      refine SPL_nil ?_
      refine thenP_n ?_
      exact Again.intro ((j + 1, decide ((jump Cj 6 c.tab[j].toNat).2 = b.carry), (jump Cj 6 c.tab[j].toNat).1, s5)) (⟨by dsimp only; omega, by dsimp only; rw [List.take_succ_eq_append_getElem hjl, sames_snoc, ← hsm, jump_car, hf5, (strip_fields (strip_getD hf2 _)).2.1]; rfl, by dsimp only; rw [List.take_succ_eq_append_getElem hjl, jumps_snoc, ← hCj], hm5⟩) (by simp only []; omega) (by repeat (first | exact Sub.nil _ | refine Sub.cons rfl ?_)) (by repeat (first | exact Part.nil _ | (apply Part.cons; (first | exact P0 | exact P1 | exact P2 | exact P3 | exact P4 | exact P5 | exact P6 | exact P7 | exact P8 | exact P9 | exact P10 | exact P11 | exact P12 | exact P13 | exact P14 | exact P15 | exact P16 | exact P17 | exact P18 | exact P19 | exact P20 | exact P21 | exact P22 | exact P23)) | (apply Part.flat; simp only [List.cons_append, List.nil_append]) | (apply Part.nilc)))
  intro h11_0
  refine SPL_nil ?_
  refine thenP_n ?_
  refine SP_seq ?_
  refine SP_cond_f rfl ?_
  refine SP_exit ?_
  refine thenP_exit ?_
  refine thenP_exit ?_
  refine inBlockP_hit ?_
  refine thenP_n ?_
  refine SP_seq ?_
  obtain rfl : j = c.tab.length := by omega
  rw [List.take_of_length_le (Nat.le_refl _)] at hsm hCj
  refine SP_region ?_
  refine SPL_y (y_move rfl) rfl ?_
  refine SPL_y (y_move rfl) rfl ?_
  refine SPL_y (y_cat rfl rfl (by first | omega | (simp; omega))) rfl ?_
  refine SPL_one rfl (SP1_call (prep_leaves k pv uv mv (some ⟨bo, 0, none⟩) Cj sj (b.carry ++ [105]) hmj (by rw [hf5]; exact hN) (by rw [(strip_fields (strip_top hf2)).2.2.1, hf1]; exact hht) ⟨by rw [hf1]; omega, by rw [hf5]; omega, by omega⟩ (by simp; omega)) Tryz.call109 rfl rfl (by repeat (first | exact Part.nil _ | (apply Part.cons; (first | exact P0 | exact P1 | exact P2 | exact P3 | exact P4 | exact P5 | exact P6 | exact P7 | exact P8 | exact P9 | exact P10 | exact P11 | exact P12 | exact P13 | exact P14 | exact P15 | exact P16 | exact P17 | exact P18 | exact P19 | exact P20 | exact P21 | exact P22 | exact P23)) | (apply Part.flat; simp only [List.cons_append, List.nil_append]) | (apply Part.nilc))) ?_)
  rintro v post H' ⟨s6, rfl, rfl, hm6⟩ hH
  try simp only [List.cons_append, List.nil_append] at hH
  subst hH
  refine SPL_y (y_assign rfl) rfl ?_
  refine SPL_nil ?_
  refine thenP_n ?_
  refine SP_seq ?_
  refine SP_seq ?_
  refine SP_region ?_
  refine SPL_y (y_move rfl) rfl ?_
  rcases sm with _ | _
  · refine SPL_y (y_not_f rfl) rfl ?_
    refine SPL_nil ?_
    refine thenP_n ?_
    refine SP_cond_t rfl ?_
    refine SP_seq ?_
    refine SP_region ?_
    refine SPL_y (y_assign rfl) rfl ?_
    refine SPL_nil ?_
    refine thenP_n ?_
    refine SP_ret ?_
    refine thenP_ret (bodyP_ret (H' := [s6]) (Res1 rfl rfl) (by repeat (first | exact Part.nil _ | (apply Part.cons; (first | exact P0 | exact P1 | exact P2 | exact P3 | exact P4 | exact P5 | exact P6 | exact P7 | exact P8 | exact P9 | exact P10 | exact P11 | exact P12 | exact P13 | exact P14 | exact P15 | exact P16 | exact P17 | exact P18 | exact P19 | exact P20 | exact P21 | exact P22 | exact P23)) | (apply Part.flat; simp only [List.cons_append, List.nil_append]) | (apply Part.nilc))) ?_)
    have hnone : ¬ (c.tab.any fun t => decide (C.opn.length ≤ t.toNat)) = true := by
      rw [List.any_eq_true]; rintro ⟨t, ht, h⟩
      obtain ⟨i, hi, rfl⟩ := List.getElem_of_mem ht
      have := hall2 i hi; simp at h; omega
    have hd : (C.opn.getD (C.opn.length - 1 - (c.tab.getD (c.tab.length - 1) 0).toNat) Blk.nil).carry = b.carry := by
      rw [List.getD_eq_getElem?_getD (l := c.tab), List.getElem?_eq_getElem (show c.tab.length - 1 < c.tab.length by omega), Option.getD_some, htl, List.getD_eq_getElem?_getD, List.getElem?_eq_getElem (show C.opn.length - 1 - tl.toNat < C.opn.length by omega), hb]; rfl
    have e : table C c = ((leaves Cj (b.carry ++ [105])).1, if sames C b.carry c.tab then (leaves Cj (b.carry ++ [105])).2 else 6) := by
      unfold table; rw [if_neg hnone]; dsimp only; rw [hd, ← hCj]
    rw [e, ← hsm]
    exact ⟨_, rfl, rfl, hm6⟩
  · refine SPL_y (y_not_t rfl) rfl ?_
    refine SPL_nil ?_
    refine thenP_n ?_
    refine SP_cond_f rfl ?_
    refine SP_skip ?_
    refine thenP_n ?_
    refine SP_seq ?_
    refine SP_region ?_
    refine SPL_y (y_move rfl) rfl ?_
    refine SPL_y (y_assign rfl) rfl ?_
    refine SPL_nil ?_
    refine thenP_n ?_
    refine SP_ret ?_
    refine bodyP_ret (H' := [s6]) (Res1 rfl rfl) (by repeat (first | exact Part.nil _ | (apply Part.cons; (first | exact P0 | exact P1 | exact P2 | exact P3 | exact P4 | exact P5 | exact P6 | exact P7 | exact P8 | exact P9 | exact P10 | exact P11 | exact P12 | exact P13 | exact P14 | exact P15 | exact P16 | exact P17 | exact P18 | exact P19 | exact P20 | exact P21 | exact P22 | exact P23)) | (apply Part.flat; simp only [List.cons_append, List.nil_append]) | (apply Part.nilc))) ?_
    have hnone : ¬ (c.tab.any fun t => decide (C.opn.length ≤ t.toNat)) = true := by
      rw [List.any_eq_true]; rintro ⟨t, ht, h⟩
      obtain ⟨i, hi, rfl⟩ := List.getElem_of_mem ht
      have := hall2 i hi; simp at h; omega
    have hd : (C.opn.getD (C.opn.length - 1 - (c.tab.getD (c.tab.length - 1) 0).toNat) Blk.nil).carry = b.carry := by
      rw [List.getD_eq_getElem?_getD (l := c.tab), List.getElem?_eq_getElem (show c.tab.length - 1 < c.tab.length by omega), Option.getD_some, htl, List.getD_eq_getElem?_getD, List.getElem?_eq_getElem (show C.opn.length - 1 - tl.toNat < C.opn.length by omega), hb]; rfl
    have e : table C c = ((leaves Cj (b.carry ++ [105])).1, if sames C b.carry c.tab then (leaves Cj (b.carry ++ [105])).2 else 6) := by
      unfold table; rw [if_neg hnone]; dsimp only; rw [hd, ← hCj]
    rw [e, ← hsm]
    exact ⟨_, rfl, rfl, hm6⟩

end Go.Sl
