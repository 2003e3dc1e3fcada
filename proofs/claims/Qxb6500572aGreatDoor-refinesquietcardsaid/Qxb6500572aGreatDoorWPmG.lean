/- Walks: package prepm, br_table (made by program out of short notes) -/
import Derived.Test.Qxb6500572aGreatDoorWPmF
namespace Go.Sl
open Go Go.Wl Go.Proofs
set_option maxRecDepth 100000
set_option linter.unusedVariables false
set_option linter.unusedSimpArgs false
theorem take_map_last {α β : Type} {l : List α} {f : α → β} {n : Nat} (h : n + 1 = l.length) : (l.take n).map f ++ [f (l[n]'(by omega))] = l.map f := by
  rw [← List.map_singleton, ← List.map_append, ← List.take_succ_eq_append_getElem (by omega), List.take_of_length_le (by omega)]
theorem all_succ {l : List UInt8} {p : UInt8 → Bool} {j : Nat} (h : j < l.length) : (l.take (j + 1)).all p = ((l.take j).all p && p l[j]) := by
  rw [List.take_succ_eq_append_getElem h, List.all_append]; simp

set_option maxHeartbeats 4000000 in
theorem pm_one_table (pb k bf : Nat) (nv mnv mxv stv : Value) (fc : Nat) (fs : List Fm) (u : Fm) (la lb sp : List Value) (sa : Option Addr) (sc : Nat) (ca : Option Addr) (cc : Nat) (code : List Flat) (sv cd : Seg) (K : Km) (s : Seg) (i : Nat) (c : Ins)
    (hi : i < u.src.length) (hci : u.src[i] = c) (hs : Arr 87 3 sa u.src.length sc (codeV u.src) sv) (hcd : Arr 181 4 ca code.length cc (code.flatMap flatV) cd) (hm : isKm k K s) (hK : KB K) (hL : LabOk K u.src)
    (hsl : u.src.length ≤ 1000) (htab : ∀ c, c ∈ u.src → c.tab.length ≤ 5) (hcl : code.length ≤ 100000) (hpl : u.params.length ≤ 100 ∧ u.results.length ≤ 100 ∧ u.locals.length ≤ 100)
    (hfs : ∀ (g : Nat) (f : Fm), fs[g]? = some f → (la ++ rowM u sa sc ca code.length cc ++ lb)[g * 5]? = some (S f.params) ∧ (la ++ rowM u sa sc ca code.length cc ++ lb)[g * 5 + 1]? = some (S f.results) ∧ f.params.length ≤ 100 ∧ f.results.length ≤ 100) (hfl : fs.length ≤ 1000) (hw : well c = true) (hop : c.op = 8) : Spec Tryz.prog 73 [.pointer (some ⟨pb, 0, none⟩), .pointer (some ⟨k, 0, none⟩), .pointer (some ⟨bf, la.length, none⟩), I i] [blk pb 159 [nv, mnv, mxv, stv, .slice (some ⟨bf, 0, none⟩) fs.length fc], blk bf 164 (la ++ rowM u sa sc ca code.length cc ++ lb ++ sp), s, sv, cd] (Ret fun v H => ∃ ca' cc' cd' s', v = I (oneM fs u code K i c).2.2 ∧ H = [blk pb 159 [nv, mnv, mxv, stv, .slice (some ⟨bf, 0, none⟩) fs.length fc], blk bf 164 (la ++ rowM u sa sc ca' (oneM fs u code K i c).2.1.length cc' ++ lb ++ sp), s', sv, cd'] ∧ isKm k (oneM fs u code K i c).1 s' ∧ Arr 181 4 ca' (oneM fs u code K i c).2.1.length cc' ((oneM fs u code K i c).2.1.flatMap flatV) cd') := by
  have hp := hK.pos
  have hz1 := hK.st
  have hz2 := hK.cs
  have hwg := (well_ge hw).2 (by omega)
  refine Spec_enter Tryz.func73 rfl Tryz.ntmps73 rfl ?_
  show SP _ _ _ _ _ [(0, _), (1, _), (2, _), (3, _)] _
  refine SP_seq ?_
  refine SP_region ?_
  refine SPL_y (y_assign rfl) rfl ?_
  refine SPL_nil ?_
  refine thenP_n ?_
  refine SP_seq ?_
  obtain ⟨bs, sps, rfl, hsc, hsps, rfl⟩ := hs.row (by omega)
  refine SP_region ?_
  refine SPL_y (y_move rfl) rfl ?_
  refine SPL_y (y_nil rfl) rfl ?_
  refine SPL_y (y_fa fld_164_3 rfl) rfl ?_
  refine SPL_y (y_load Tryz.isAgg34 rfl (by repeat (first | exact row_cell (q := 3) rfl | apply Cell.tail))) rfl ?_
  refine SPL_y (y_move rfl) rfl ?_
  refine SPL_y (y_ia Tryz.underlying34 Tryz.sizeOf87 rfl rfl (by omega)) rfl ?_
  refine SPL_y (y_loads Tryz.isAgg87 Tryz.sizeOf87 rfl rfl (by repeat (first | exact flat_cellsE insV_len (i := i) rfl hi hci | apply Cells.tail))) rfl ?_
  refine SPL_one rfl (SP1_alloc Tryz.zeroValue87 rfl rfl ?_)
  intro b9
  refine SPL_one rfl (SP1_storeAll Tryz.sizeOf87 rfl rfl rfl rfl rfl (by first | exact U0 | exact U1 | exact U2 | exact U3 | exact U4 | exact U5 | exact U6 | exact U7 | exact U8 | exact U9 | exact U10 | exact U11 | exact U12 | exact U13 | exact U14 | exact U15 | exact U16 | exact U17 | exact U18 | exact U19 | exact U20 | exact U21 | exact U22 | exact U23) (by rfl) ?_)
  refine SPL_y (y_assign rfl) rfl ?_
  refine SPL_nil ?_
  refine thenP_n ?_
  refine SP_seq ?_
  refine SP_region ?_
  refine SPL_y (y_fa fld_87_0 rfl) rfl ?_
  refine SPL_y (y_load Tryz.isAgg3 rfl (by repeat (first | exact Cell.head rfl | apply Cell.tail))) rfl ?_
  refine SPL_y (y_fa fld_87_1 rfl) rfl ?_
  refine SPL_y (y_load Tryz.isAgg3 rfl (by repeat (first | exact Cell.head rfl | apply Cell.tail))) rfl ?_
  refine SPL_y (y_build B181 rfl rfl (by simp only [fillL, List.foldl_cons, List.foldl_nil, List.set_cons_zero, List.set_cons_succ]; exact rfl)) rfl ?_
  refine SPL_one rfl (SP1_alloc Tryz.zeroValue181 rfl rfl ?_)
  intro b11
  refine SPL_one rfl (SP1_storeAll Tryz.sizeOf181 rfl rfl rfl rfl rfl (by first | exact U0 | exact U1 | exact U2 | exact U3 | exact U4 | exact U5 | exact U6 | exact U7 | exact U8 | exact U9 | exact U10 | exact U11 | exact U12 | exact U13 | exact U14 | exact U15 | exact U16 | exact U17 | exact U18 | exact U19 | exact U20 | exact U21 | exact U22 | exact U23) (by rfl) ?_)
  refine SPL_nil ?_
  refine thenP_n ?_
  refine SP_seq ?_
  refine SP_draw 999 [(0, 0), (1, 0), (2, 0), (4, 0), (5, 0), (6, 0), (3, 1), (7, 1), (8, 0), (9, 0)] mixed (by kernel_rfl) (fun _ _ _ _ _ h => h) (Part.refl _) ?_
  refine SPO_p rfl (y_move rfl) rfl ?_
  refine SPO_p rfl (y_nil rfl) rfl ?_
  refine SPO_p rfl (y_fa fld_164_0 rfl) rfl ?_
  refine SPO_p rfl (y_move rfl) rfl ?_
  refine SPO_p rfl (y_nil rfl) rfl ?_
  refine SPO_p rfl (y_fa fld_164_2 rfl) rfl ?_
  refine SPO_h rfl (y_load Tryz.isAgg9 rfl (by repeat (first | exact row_cell (q := 0) rfl | apply Cell.tail))) rfl ?_
  refine SPO_h rfl (y_load Tryz.isAgg9 rfl (by repeat (first | exact row_cell (q := 2) rfl | apply Cell.tail))) rfl ?_
  refine SPO_p rfl (y_cat rfl rfl (by first | omega | (simp; omega))) rfl ?_
  refine SPO_p rfl (y_assign rfl) rfl ?_
  refine SPO_nil ?_
  refine thenP_n ?_
  refine SP_seq ?_
  refine SP_seq ?_
  refine SP_region ?_
  refine SPL_y (y_fa fld_87_0 rfl) rfl ?_
  refine SPL_y (y_load Tryz.isAgg3 rfl (by repeat (first | exact Cell.head rfl | apply Cell.tail))) rfl ?_
  refine SPL_nil ?_
  refine thenP_n ?_
  refine SP_block ?_
  refine SP_seq ?_
  refine SP_seq ?_
  refine SP_region ?_
  refine SPL_y (y_eqlF rfl rfl (by omega)) rfl ?_
  refine SPL_y (y_assign rfl) rfl ?_
  refine SPL_nil ?_
  refine thenP_n ?_
  refine SP_cond_f rfl ?_
  refine SP_seq ?_
  refine SP_region ?_
  refine SPL_y (y_eqlF rfl rfl (by omega)) rfl ?_
  refine SPL_y (y_assign rfl) rfl ?_
  refine SPL_nil ?_
  refine thenP_n ?_
  refine SP_cond_f rfl ?_
  refine SP_region ?_
  refine SPL_y (y_eqlF rfl rfl (by omega)) rfl ?_
  refine SPL_y (y_assign rfl) rfl ?_
  refine SPL_nil ?_
  refine thenP_n ?_
  refine SP_cond_f rfl ?_
  refine SP_seq ?_
  refine SP_region ?_
  refine SPL_y (y_eqlF rfl rfl (by omega)) rfl ?_
  refine SPL_y (y_assign rfl) rfl ?_
  refine SPL_nil ?_
  refine thenP_n ?_
  refine SP_cond_f rfl ?_
  refine SP_seq ?_
  refine SP_region ?_
  refine SPL_y (y_eqlF rfl rfl (by omega)) rfl ?_
  refine SPL_y (y_assign rfl) rfl ?_
  refine SPL_nil ?_
  refine thenP_n ?_
  refine SP_cond_f rfl ?_
  refine SP_seq ?_
  refine SP_seq ?_
  refine SP_region ?_
  refine SPL_y (y_eqlF rfl rfl (by omega)) rfl ?_
  refine SPL_y (y_assign rfl) rfl ?_
  refine SPL_nil ?_
  refine thenP_n ?_
  refine SP_cond_f rfl ?_
  refine SP_region ?_
  refine SPL_y (y_eqlF rfl rfl (by omega)) rfl ?_
  refine SPL_y (y_assign rfl) rfl ?_
  refine SPL_nil ?_
  refine thenP_n ?_
  refine SP_cond_f rfl ?_
  refine SP_seq ?_
  refine SP_region ?_
  refine SPL_y (y_eqlT rfl rfl hop) rfl ?_
  refine SPL_y (y_assign rfl) rfl ?_
  refine SPL_nil ?_
  refine thenP_n ?_
  refine SP_cond_t rfl ?_
  refine SP_seq ?_
  refine SP_seq ?_
  have hm0 := hm
  obtain ⟨ta, tc, oa, oc, st, so, rfl, hst, hop_⟩ := hm
  refine SP_openAt [blk k 174 [.slice ta K.st.length tc, .slice oa K.cs.length oc], st, so] (by first | exact P0 | exact P1 | exact P2 | exact P3 | exact P4 | exact P5 | exact P6 | exact P7 | exact P8 | exact P9 | exact P10 | exact P11 | exact P12 | exact P13 | exact P14 | exact P15 | exact P16 | exact P17 | exact P18 | exact P19 | exact P20 | exact P21 | exact P22 | exact P23) ?_
  simp only [List.cons_append, List.nil_append]
  refine SP_region ?_
  refine SPL_y (y_assign rfl) rfl ?_
  refine SPL_nil ?_
  refine thenP_n ?_
  refine SP_block ?_
  refine SP_loop (G := Nat) (fun g => c.tab.length - g) (fun g => [(1, .pointer (some ⟨k, 0, none⟩)), (2, .pointer (some ⟨bf, la.length, none⟩)), (9, .pointer (some ⟨b9, 0, none⟩)), (10, .bool true), (11, .pointer (some ⟨b11, 0, none⟩)), (20, I g)]) (fun g => [blk k 174 [.slice ta K.st.length tc, .slice oa K.cs.length oc], st, so, blk pb 159 [nv, mnv, mxv, stv, .slice (some ⟨bf, 0, none⟩) fs.length fc], blk bf 164 (la ++ rowM u (some ⟨bs, 0, none⟩) sc ca code.length cc ++ lb ++ sp), blk bs 87 (codeV u.src ++ sps), cd, blk b9 87 (insV c), blk b11 181 [I c.op, I c.imm, I 0, I 0]]) (fun g => g ≤ c.tab.length ∧ ∀ t, t ∈ c.tab.take g → t.toNat < K.cs.length) (0) (⟨Nat.zero_le _, fun t h => by simp at h⟩) (by repeat (first | exact Sub.nil _ | refine Sub.cons rfl ?_)) (by repeat (first | exact Part.nil _ | (apply Part.cons; (first | exact P0 | exact P1 | exact P2 | exact P3 | exact P4 | exact P5 | exact P6 | exact P7 | exact P8 | exact P9 | exact P10 | exact P11 | exact P12 | exact P13 | exact P14 | exact P15 | exact P16 | exact P17 | exact P18 | exact P19 | exact P20 | exact P21 | exact P22 | exact P23)) | (apply Part.flat; simp only [List.cons_append, List.nil_append]) | (apply Part.nilc))) ?_
  rintro j ⟨hj, hall⟩
  refine SP_seq ?_
  refine SP_seq ?_
  refine SP_region ?_
  refine SPL_y (y_move rfl) rfl ?_
  refine SPL_y (y_fa fld_87_2 rfl) rfl ?_
  refine SPL_y (y_load Tryz.isAgg9 rfl (by repeat (first | exact Cell.head rfl | apply Cell.tail))) rfl ?_
  refine SPL_y (y_len_s Tryz.underlying9 rfl) rfl ?_
  refine SPL_if (y_lss rfl rfl) rfl ?_ ?_
  · intro h47_4
    refine SPL_nil ?_
    refine thenP_n ?_
    refine SP_cond_t rfl ?_
    refine SP_skip ?_
    refine thenP_n ?_
    refine SP_seq ?_
    refine SP_block ?_
    refine SP_seq ?_
    have hjl : j < c.tab.length := by omega
    refine SP_draw 999 [(0, 0), (2, 0), (5, 0), (6, 0), (7, 0), (1, 1), (3, 0), (4, 0), (8, 1), (9, 0), (10, 0)] mixed (by kernel_rfl) (fun _ _ _ _ _ h => h) (Part.refl _) ?_
    refine SPO_p rfl (y_fa fld_87_2 rfl) rfl ?_
    refine SPO_p rfl (y_move rfl) rfl ?_
    refine SPO_p rfl (y_move rfl) rfl ?_
    refine SPO_p rfl (y_nil rfl) rfl ?_
    refine SPO_p rfl (y_fa fld_174_1 rfl) rfl ?_
    refine SPO_h rfl (y_load Tryz.isAgg9 rfl (by repeat (first | exact Cell.head rfl | apply Cell.tail))) rfl ?_
    refine SPO_p rfl (y_idx_s Tryz.underlying9 rfl rfl (by omega) (show c.tab[((j : Nat) : Int).toNat]? = some c.tab[j] by rw [Int.toNat_natCast]; exact List.getElem?_eq_getElem hjl)) rfl ?_
    refine SPO_p rfl (y_conv Tryz.underlying5 Tryz.underlying3 rfl (wrap_i64 (x := (c.tab[j].toNat : Int)) (by omega) (by have := UInt8.toNat_lt c.tab[j]; omega))) rfl ?_
    refine SPO_h rfl (y_load Tryz.isAgg172 rfl (by repeat (first | exact Cell.head rfl | apply Cell.tail))) rfl ?_
    refine SPO_p rfl (y_len_l Tryz.underlying172 rfl) rfl ?_
    refine SPO_ifn rfl (y_geq rfl rfl) rfl ?_ ?_
    · intro h49_10
      refine SPO_nil ?_
      refine thenP_n ?_
      refine SP_cond_f rfl ?_
      refine SP_skip ?_
      refine inBlockP_n ?_
      refine thenP_n ?_
      refine SP_region ?_
      refine SPL_y (y_move rfl) rfl ?_
      refine SPL_y (y_add rfl rfl (by omega)) rfl ?_
      refine SPL_y (y_assign rfl) rfl ?_
      refine SPL_nil ?_
      refine thenP_n ?_
      exact Again.intro (j + 1) (⟨by omega, fun t ht => by rw [List.take_succ_eq_append_getElem hjl] at ht; rcases List.mem_append.1 ht with ht | ht; exact hall t ht; simp at ht; subst ht; omega⟩) (by omega) (by repeat (first | exact Sub.nil _ | refine Sub.cons rfl ?_)) (by repeat (first | exact Part.nil _ | (apply Part.cons; (first | exact P0 | exact P1 | exact P2 | exact P3 | exact P4 | exact P5 | exact P6 | exact P7 | exact P8 | exact P9 | exact P10 | exact P11 | exact P12 | exact P13 | exact P14 | exact P15 | exact P16 | exact P17 | exact P18 | exact P19 | exact P20 | exact P21 | exact P22 | exact P23)) | (apply Part.flat; simp only [List.cons_append, List.nil_append]) | (apply Part.nilc)))
    intro h49_10
    refine SPO_nil ?_
    refine thenP_n ?_
    refine SP_cond_t rfl ?_
    refine SP_seq ?_
    refine SP_region ?_
    refine SPL_y (y_assign rfl) rfl ?_
    refine SPL_nil ?_
    refine thenP_n ?_
    refine SP_ret ?_
    refine inBlockP_ret (thenP_ret (thenP_ret (inBlockP_ret (thenP_ret (inBlockP_ret (thenP_ret (bodyP_ret (H' := [blk pb 159 [nv, mnv, mxv, stv, .slice (some ⟨bf, 0, none⟩) fs.length fc], blk bf 164 (la ++ rowM u (some ⟨bs, 0, none⟩) sc ca code.length cc ++ lb ++ sp), List.flatten [blk k 174 [.slice ta K.st.length tc, .slice oa K.cs.length oc], st, so], blk bs 87 (codeV u.src ++ sps), cd]) (Res1 rfl rfl) (by repeat (first | exact Part.nil _ | (apply Part.cons; (first | exact P0 | exact P1 | exact P2 | exact P3 | exact P4 | exact P5 | exact P6 | exact P7 | exact P8 | exact P9 | exact P10 | exact P11 | exact P12 | exact P13 | exact P14 | exact P15 | exact P16 | exact P17 | exact P18 | exact P19 | exact P20 | exact P21 | exact P22 | exact P23)) | (apply Part.flat; simp only [List.cons_append, List.nil_append]) | (apply Part.nilc))) ?_)))))))
    have e : oneM fs u code K i c = (K, code, 5) := by
      unfold oneM; rw [if_neg (by omega), if_neg (by omega), if_neg (by omega), if_neg (by omega), if_pos hop]; unfold tableM
      rw [if_pos (List.any_eq_true.2 ⟨c.tab[j], List.getElem_mem _, decide_eq_true (by omega)⟩)]
    rw [e]
    exact ⟨ca, cc, cd, _, rfl, rfl, hm0, hcd⟩
  intro h47_4
  refine SPL_nil ?_
  refine thenP_n ?_
  refine SP_cond_f rfl ?_
  refine SP_exit ?_
  refine thenP_exit ?_
  refine thenP_exit ?_
  refine inBlockP_hit ?_
  refine thenP_n ?_
  refine SP_seq ?_
  obtain rfl : j = c.tab.length := by omega
  rw [List.take_of_length_le (Nat.le_refl _)] at hall
  obtain ⟨bo, spo, rfl, hoc, hspo, rfl⟩ := hop_.row (by omega)
  have hle1 : c.tab.length - 1 < c.tab.length := by omega
  obtain ⟨la0, hla0⟩ : ∃ x, c.tab[c.tab.length - 1] = x := ⟨_, rfl⟩
  have hlast := hall la0 (by rw [← hla0]; exact List.getElem_mem _)
  obtain ⟨c0, hc0⟩ : ∃ x, K.cs[K.cs.length - 1 - la0.toNat] = x := ⟨_, rfl⟩
  have hlab : K.lab la0.toNat = c0 := by rw [labM_eq hlast, hc0]
  have hll : (labelM c0).length ≤ 1 := by unfold labelM; split; simp; exact resOf_le _
  refine SP_region ?_
  refine SPL_y (y_fa fld_87_2 rfl) rfl ?_
  refine SPL_y (y_load Tryz.isAgg9 rfl (by repeat (first | exact Cell.head rfl | apply Cell.tail))) rfl ?_
  refine SPL_y (y_len_s Tryz.underlying9 rfl) rfl ?_
  refine SPL_y (y_sub rfl rfl (by omega)) rfl ?_
  refine SPL_y (y_fa fld_181_1 rfl) rfl ?_
  refine SPL_one rfl (SP1_store Tryz.sizeOf3 rfl rfl rfl (by first | exact U0 | exact U1 | exact U2 | exact U3 | exact U4 | exact U5 | exact U6 | exact U7 | exact U8 | exact U9 | exact U10 | exact U11 | exact U12 | exact U13 | exact U14 | exact U15 | exact U16 | exact U17 | exact U18 | exact U19 | exact U20 | exact U21 | exact U22 | exact U23) (by rfl) ?_)
  refine SPL_nil ?_
  refine thenP_n ?_
  refine SP_seq ?_
  refine SP_draw 7 [(0, 0), (1, 0), (2, 0), (3, 0), (4, 1), (5, 1), (6, 2), (7, 3), (8, 0), (9, 0), (10, 3)] mixed (by kernel_rfl) (fun _ _ _ _ _ h => h) (Part.refl _) ?_
  refine SPO_p rfl (y_move rfl) rfl ?_
  refine SPO_p rfl (y_move rfl) rfl ?_
  refine SPO_p rfl (y_nil rfl) rfl ?_
  refine SPO_p rfl (y_fa fld_164_4 rfl) rfl ?_
  refine SPO_h rfl (y_load Tryz.isAgg106 rfl (by repeat (first | exact row_cell (q := 4) rfl | apply Cell.tail))) rfl ?_
  refine SPO_h rfl (y_loads Tryz.isAgg181 Tryz.sizeOf181 rfl rfl (by repeat (first | exact Cells.all _ | exact Cells.head rfl | apply Cells.tail))) rfl ?_
  refine SPO_a rfl rfl (SP1_slice1 el_106 rfl rfl rfl rfl rfl ?_)
  intro b304
  refine ⟨⟨_, (by repeat (first | exact Part.nil _ | (apply Part.cons; (first | exact P0 | exact P1 | exact P2 | exact P3 | exact P4 | exact P5 | exact P6 | exact P7 | exact P8 | exact P9 | exact P10 | exact P11 | exact P12 | exact P13 | exact P14 | exact P15 | exact P16 | exact P17 | exact P18 | exact P19 | exact P20 | exact P21 | exact P22 | exact P23)) | (apply Part.flat; simp only [List.cons_append, List.nil_append]) | (apply Part.nilc)))⟩, ?_⟩
  refine SPO_z (k := 0) rfl rfl (SP1_append el_106 (.inl Tryz.underlying106) rfl rfl hcd (by first | exact P0 | exact P1 | exact P2 | exact P3 | exact P4 | exact P5 | exact P6 | exact P7 | exact P8 | exact P9 | exact P10 | exact P11 | exact P12 | exact P13 | exact P14 | exact P15 | exact P16 | exact P17 | exact P18 | exact P19 | exact P20 | exact P21 | exact P22 | exact P23) (Src.of (by repeat (first | exact Cells.all _ | exact Cells.head rfl | apply Cells.tail)) (by rfl)) (by rfl) (by omega) rfl ?_)
  intro ca1 cc1 cd1 hcd1
  refine SPO_p rfl (y_nil rfl) rfl ?_
  refine SPO_p rfl (y_fa fld_164_4 rfl) rfl ?_
  refine SPO_z (k := 0) rfl rfl (SP1_store Tryz.sizeOf106 rfl rfl rfl (by first | exact U0 | exact U1 | exact U2 | exact U3 | exact U4 | exact U5 | exact U6 | exact U7 | exact U8 | exact U9 | exact U10 | exact U11 | exact U12 | exact U13 | exact U14 | exact U15 | exact U16 | exact U17 | exact U18 | exact U19 | exact U20 | exact U21 | exact U22 | exact U23) (row_ble (r := rowM u (some ⟨bs, 0, none⟩) sc ca code.length cc) (q := 4) (show 4 < 5 by decide)) ?_)
  rw [row_set (r := rowM u (some ⟨bs, 0, none⟩) sc ca code.length cc) (q := 4) (show 4 < 5 by decide)]
  refine SPO_nil ?_
  refine thenP_n ?_
  refine SP_seq ?_
  refine SP_draw 19 [(0, 0), (1, 0), (2, 0), (4, 0), (5, 0), (6, 0), (10, 0), (12, 0), (3, 1), (7, 1), (8, 0), (9, 0), (11, 1), (13, 1), (14, 0), (15, 0), (16, 0), (17, 0), (18, 1), (19, 3), (20, 0)] mixed (by kernel_rfl) (fun _ _ _ _ _ h => h) (Part.refl _) ?_
  refine SPO_p rfl (y_move rfl) rfl ?_
  refine SPO_p rfl (y_nil rfl) rfl ?_
  refine SPO_p rfl (y_fa fld_174_1 rfl) rfl ?_
  refine SPO_p rfl (y_move rfl) rfl ?_
  refine SPO_p rfl (y_nil rfl) rfl ?_
  refine SPO_p rfl (y_fa fld_174_1 rfl) rfl ?_
  refine SPO_p rfl (y_fa fld_87_2 rfl) rfl ?_
  refine SPO_p rfl (y_fa fld_181_1 rfl) rfl ?_
  refine SPO_h rfl (y_load Tryz.isAgg172 rfl (by repeat (first | exact Cell.head rfl | apply Cell.tail))) rfl ?_
  refine SPO_h rfl (y_load Tryz.isAgg172 rfl (by repeat (first | exact Cell.head rfl | apply Cell.tail))) rfl ?_
  refine SPO_p rfl (y_len_l Tryz.underlying172 rfl) rfl ?_
  refine SPO_p rfl (y_sub rfl rfl (by omega)) rfl ?_
  refine SPO_h rfl (y_load Tryz.isAgg9 rfl (by repeat (first | exact Cell.head rfl | apply Cell.tail))) rfl ?_
  refine SPO_h rfl (y_load Tryz.isAgg3 rfl (by repeat (first | exact Cell.head rfl | apply Cell.tail))) rfl ?_
  refine SPO_p rfl (y_idx_s Tryz.underlying9 rfl rfl (by omega) (show c.tab[((c.tab.length : Int) - 1).toNat]? = some la0 by rw [show ((c.tab.length : Int) - 1).toNat = c.tab.length - 1 by omega, List.getElem?_eq_getElem hle1, hla0])) rfl ?_
  refine SPO_p rfl (y_conv Tryz.underlying5 Tryz.underlying3 rfl (wrap_i64 (x := (la0.toNat : Int)) (by omega) (by have := UInt8.toNat_lt la0; omega))) rfl ?_
  refine SPO_p rfl (y_sub rfl rfl (by omega)) rfl ?_
  refine SPO_p rfl (y_ia Tryz.underlying172 Tryz.sizeOf171 rfl rfl (by omega)) rfl ?_
  refine SPO_h rfl (y_loads Tryz.isAgg171 Tryz.sizeOf171 rfl rfl (by repeat (first | exact flat_cellsE ctlV_len (i := K.cs.length - 1 - la0.toNat) (by omega) (by omega) hc0 | apply Cells.tail))) rfl ?_
  refine SPO_z (k := 0) rfl rfl (SP1_call (pm_label c0) Tryz.call99 rfl rfl (by repeat (first | exact Part.nil _ | (apply Part.cons; (first | exact P0 | exact P1 | exact P2 | exact P3 | exact P4 | exact P5 | exact P6 | exact P7 | exact P8 | exact P9 | exact P10 | exact P11 | exact P12 | exact P13 | exact P14 | exact P15 | exact P16 | exact P17 | exact P18 | exact P19 | exact P20 | exact P21 | exact P22 | exact P23)) | (apply Part.flat; simp only [List.cons_append, List.nil_append]) | (apply Part.nilc))) ?_)
  rintro v post H' ⟨rfl, rfl⟩ hH
  try simp only [List.cons_append, List.nil_append] at hH
  subst hH
  refine SPO_p rfl (y_assign rfl) rfl ?_
  refine SPO_nil ?_
  refine thenP_n ?_
  refine SP_seq ?_
  refine SP_seq ?_
  refine SP_region ?_
  refine SPL_y (y_assign rfl) rfl ?_
  refine SPL_nil ?_
  refine thenP_n ?_
  refine SP_block ?_
  refine SP_loop (G := Nat × Bool × Flat × Option Addr × Nat × Seg × Nat) (fun g => c.tab.length - g.1) (fun g => [(1, .pointer (some ⟨k, 0, none⟩)), (2, .pointer (some ⟨bf, la.length, none⟩)), (9, .pointer (some ⟨b9, 0, none⟩)), (10, .bool g.2.1), (11, .pointer (some ⟨b11, 0, none⟩)), (21, S (labelM c0)), (22, I g.1)]) (fun g => [blk k 174 [.slice ta K.st.length tc, .slice (some ⟨bo, 0, none⟩) K.cs.length oc], st, blk bo 171 (K.cs.flatMap ctlV ++ spo), blk pb 159 [nv, mnv, mxv, stv, .slice (some ⟨bf, 0, none⟩) fs.length fc], blk bf 164 (la ++ rowM u (some ⟨bs, 0, none⟩) sc g.2.2.2.1 g.2.2.2.2.2.2 g.2.2.2.2.1 ++ lb ++ sp), blk bs 87 (codeV u.src ++ sps), g.2.2.2.2.2.1, blk b9 87 (insV c), blk b11 181 (flatV g.2.2.1)]) (fun g => g.1 ≤ c.tab.length ∧ g.2.1 = (c.tab.take g.1).all (fun t : UInt8 => decide (labelM (K.lab t.toNat) = labelM c0)) ∧ g.2.2.1 = (if g.1 = 0 then (⟨c.op, (c.tab.length : Int) - 1, 0, 0⟩ : Flat) else jumpM K u.src (c.tab.getD (g.1 - 1) 0).toNat) ∧ g.2.2.2.2.2.2 = code.length + 1 + min g.1 (c.tab.length - 1) ∧ Arr 181 4 g.2.2.2.1 g.2.2.2.2.2.2 g.2.2.2.2.1 ((code ++ [(⟨c.op, (c.tab.length : Int) - 1, 0, 0⟩ : Flat)] ++ (c.tab.take (min g.1 (c.tab.length - 1))).map (fun t => jumpM K u.src t.toNat)).flatMap flatV) g.2.2.2.2.2.1) ((0, true, (⟨c.op, (c.tab.length : Int) - 1, 0, 0⟩ : Flat), ca1, cc1, cd1, code.length + 1)) (⟨Nat.zero_le _, rfl, rfl, by simp, by have h := snocF (f := (⟨c.op, (c.tab.length : Int) - 1, 0, 0⟩ : Flat)) hcd1; rw [List.length_append] at h; simpa using h⟩) (by repeat (first | exact Sub.nil _ | refine Sub.cons rfl ?_)) (by repeat (first | exact Part.nil _ | (apply Part.cons; (first | exact P0 | exact P1 | exact P2 | exact P3 | exact P4 | exact P5 | exact P6 | exact P7 | exact P8 | exact P9 | exact P10 | exact P11 | exact P12 | exact P13 | exact P14 | exact P15 | exact P16 | exact P17 | exact P18 | exact P19 | exact P20 | exact P21 | exact P22 | exact P23)) | (apply Part.flat; simp only [List.cons_append, List.nil_append]) | (apply Part.nilc))) ?_
  rintro ⟨j, ok, f, ca2, cc2, cd2, n2⟩ ⟨hj, hok, hf, hn2, hcd2⟩
  dsimp only at hj hok hf hn2 hcd2 ⊢
  refine SP_seq ?_
  refine SP_seq ?_
  refine SP_region ?_
  refine SPL_y (y_move rfl) rfl ?_
  refine SPL_y (y_fa fld_87_2 rfl) rfl ?_
  refine SPL_y (y_load Tryz.isAgg9 rfl (by repeat (first | exact Cell.head rfl | apply Cell.tail))) rfl ?_
  refine SPL_y (y_len_s Tryz.underlying9 rfl) rfl ?_
  refine SPL_ifn (y_lss rfl rfl) rfl ?_ ?_
  · intro h55_4
    refine SPL_nil ?_
    refine thenP_n ?_
    refine SP_cond_f rfl ?_
    refine SP_exit ?_
    refine thenP_exit ?_
    refine thenP_exit ?_
    refine inBlockP_hit ?_
    refine thenP_n ?_
    refine SP_seq ?_
    refine SP_seq ?_
    obtain rfl : j = c.tab.length := by omega
    rw [show min c.tab.length (c.tab.length - 1) = c.tab.length - 1 by omega] at hcd2
    rw [List.take_of_length_le (Nat.le_refl _)] at hok
    rw [if_neg (by omega)] at hf
    subst hf
    refine SP_region ?_
    refine SPL_y (y_move rfl) rfl ?_
    refine SPL_y (y_move rfl) rfl ?_
    refine SPL_y (y_cat rfl rfl (by first | omega | (simp; omega))) rfl ?_
    refine SPL_one rfl (SP1_call (pm_pops k K _ (labelM c0 ++ [105]) hm0 hK (by simp; omega)) Tryz.call92 rfl rfl (by repeat (first | exact Part.nil _ | (apply Part.cons; (first | exact P0 | exact P1 | exact P2 | exact P3 | exact P4 | exact P5 | exact P6 | exact P7 | exact P8 | exact P9 | exact P10 | exact P11 | exact P12 | exact P13 | exact P14 | exact P15 | exact P16 | exact P17 | exact P18 | exact P19 | exact P20 | exact P21 | exact P22 | exact P23)) | (apply Part.flat; simp only [List.cons_append, List.nil_append]) | (apply Part.nilc))) ?_)
    rintro v post H' ⟨s1, rfl, rfl, hm1⟩ hH
    try simp only [List.cons_append, List.nil_append] at hH
    subst hH
    obtain ⟨b1, hb1⟩ : ∃ x, (popsM K (labelM c0 ++ [105])).2 = x := ⟨_, rfl⟩
    rw [hb1]
    rcases b1 with _ | _
    · refine SPL_y (y_not_f rfl) rfl ?_
      refine SPL_nil ?_
      refine thenP_n ?_
      refine SP_cond_t rfl ?_
      refine SP_region ?_
      refine SPL_y (y_assign rfl) rfl ?_
      refine SPL_nil ?_
      refine thenP_n ?_
      refine SP_region ?_
      refine SPL_y (y_move rfl) rfl ?_
      refine SPL_one rfl (SP1_call (pm_dead k (popsM K (labelM c0 ++ [105])).1 s1 hm1 (hK.pops _)) Tryz.call101 rfl rfl (by repeat (first | exact Part.nil _ | (apply Part.cons; (first | exact P0 | exact P1 | exact P2 | exact P3 | exact P4 | exact P5 | exact P6 | exact P7 | exact P8 | exact P9 | exact P10 | exact P11 | exact P12 | exact P13 | exact P14 | exact P15 | exact P16 | exact P17 | exact P18 | exact P19 | exact P20 | exact P21 | exact P22 | exact P23)) | (apply Part.flat; simp only [List.cons_append, List.nil_append]) | (apply Part.nilc))) ?_)
      rintro v post H' ⟨s2, rfl, rfl, hm2⟩ hH
      try simp only [List.cons_append, List.nil_append] at hH
      subst hH
      refine SPL_nil ?_
      refine inBlockP_n ?_
      refine thenP_n ?_
      refine SP_seq ?_
      refine SP_draw 7 [(0, 0), (1, 0), (2, 0), (3, 0), (4, 1), (5, 1), (6, 2), (7, 3), (8, 0), (9, 0), (10, 3)] mixed (by kernel_rfl) (fun _ _ _ _ _ h => h) (Part.refl _) ?_
      refine SPO_p rfl (y_move rfl) rfl ?_
      refine SPO_p rfl (y_move rfl) rfl ?_
      refine SPO_p rfl (y_nil rfl) rfl ?_
      refine SPO_p rfl (y_fa fld_164_4 rfl) rfl ?_
      refine SPO_h rfl (y_load Tryz.isAgg106 rfl (by repeat (first | exact row_cell (q := 4) rfl | apply Cell.tail))) rfl ?_
      refine SPO_h rfl (y_loads Tryz.isAgg181 Tryz.sizeOf181 rfl rfl (by repeat (first | exact Cells.all _ | exact Cells.head rfl | apply Cells.tail))) rfl ?_
      refine SPO_a rfl rfl (SP1_slice1 el_106 rfl rfl rfl rfl rfl ?_)
      intro b512
      refine ⟨⟨_, (by repeat (first | exact Part.nil _ | (apply Part.cons; (first | exact P0 | exact P1 | exact P2 | exact P3 | exact P4 | exact P5 | exact P6 | exact P7 | exact P8 | exact P9 | exact P10 | exact P11 | exact P12 | exact P13 | exact P14 | exact P15 | exact P16 | exact P17 | exact P18 | exact P19 | exact P20 | exact P21 | exact P22 | exact P23)) | (apply Part.flat; simp only [List.cons_append, List.nil_append]) | (apply Part.nilc)))⟩, ?_⟩
      refine SPO_z (k := 0) rfl rfl (SP1_append el_106 (.inl Tryz.underlying106) rfl rfl hcd2 (by first | exact P0 | exact P1 | exact P2 | exact P3 | exact P4 | exact P5 | exact P6 | exact P7 | exact P8 | exact P9 | exact P10 | exact P11 | exact P12 | exact P13 | exact P14 | exact P15 | exact P16 | exact P17 | exact P18 | exact P19 | exact P20 | exact P21 | exact P22 | exact P23) (Src.of (by repeat (first | exact Cells.all _ | exact Cells.head rfl | apply Cells.tail)) (by rfl)) (by rfl) (by omega) rfl ?_)
      intro ca3 cc3 cd3 hcd3
      refine SPO_p rfl (y_nil rfl) rfl ?_
      refine SPO_p rfl (y_fa fld_164_4 rfl) rfl ?_
      refine SPO_z (k := 0) rfl rfl (SP1_store Tryz.sizeOf106 rfl rfl rfl (by first | exact U0 | exact U1 | exact U2 | exact U3 | exact U4 | exact U5 | exact U6 | exact U7 | exact U8 | exact U9 | exact U10 | exact U11 | exact U12 | exact U13 | exact U14 | exact U15 | exact U16 | exact U17 | exact U18 | exact U19 | exact U20 | exact U21 | exact U22 | exact U23) (row_ble (r := rowM u (some ⟨bs, 0, none⟩) sc ca2 n2 cc2) (q := 4) (show 4 < 5 by decide)) ?_)
      rw [row_set (r := rowM u (some ⟨bs, 0, none⟩) sc ca2 n2 cc2) (q := 4) (show 4 < 5 by decide)]
      refine SPO_nil ?_
      refine thenP_n ?_
      refine SP_seq ?_
      refine SP_region ?_
      refine SPL_y (y_move rfl) rfl ?_
      refine SPL_one rfl (SP1_call (pm_typed _) Tryz.call95 rfl rfl (by repeat (first | exact Part.nil _ | (apply Part.cons; (first | exact P0 | exact P1 | exact P2 | exact P3 | exact P4 | exact P5 | exact P6 | exact P7 | exact P8 | exact P9 | exact P10 | exact P11 | exact P12 | exact P13 | exact P14 | exact P15 | exact P16 | exact P17 | exact P18 | exact P19 | exact P20 | exact P21 | exact P22 | exact P23)) | (apply Part.flat; simp only [List.cons_append, List.nil_append]) | (apply Part.nilc))) ?_)
      rintro v post H' ⟨rfl, rfl⟩ hH
      try simp only [List.cons_append, List.nil_append] at hH
      subst hH
      refine SPL_y (y_assign rfl) rfl ?_
      refine SPL_nil ?_
      refine thenP_n ?_
      refine SP_ret ?_
      refine bodyP_ret (H' := [blk pb 159 [nv, mnv, mxv, stv, .slice (some ⟨bf, 0, none⟩) fs.length fc], blk bf 164 (la ++ rowM u (some ⟨bs, 0, none⟩) sc ca3 (n2 + 1) cc3 ++ lb ++ sp), s2, blk bs 87 (codeV u.src ++ sps), cd3]) (Res1 rfl rfl) (by repeat (first | exact Part.nil _ | (apply Part.cons; (first | exact P0 | exact P1 | exact P2 | exact P3 | exact P4 | exact P5 | exact P6 | exact P7 | exact P8 | exact P9 | exact P10 | exact P11 | exact P12 | exact P13 | exact P14 | exact P15 | exact P16 | exact P17 | exact P18 | exact P19 | exact P20 | exact P21 | exact P22 | exact P23)) | (apply Part.flat; simp only [List.cons_append, List.nil_append]) | (apply Part.nilc))) ?_
      have hge : (c.tab.getD (c.tab.length - 1) 0) = la0 := by rw [List.getD_eq_getElem?_getD, List.getElem?_eq_getElem hle1, hla0]; rfl
      have e : oneM fs u code K i c = (deadM (popsM K (labelM c0 ++ [105])).1, code ++ [(⟨c.op, (c.tab.length : Int) - 1, 0, 0⟩ : Flat)] ++ c.tab.map (fun t => jumpM K u.src t.toNat), typedM false) := by
        unfold oneM; rw [if_neg (by omega), if_neg (by omega), if_neg (by omega), if_neg (by omega), if_pos hop]; unfold tableM
        rw [if_neg (by rw [List.any_eq_true]; rintro ⟨t, ht, h2⟩; have := of_decide_eq_true h2; have := hall t ht; omega)]
        dsimp only
        rw [hge, hlab, hb1, Bool.and_false, hop]
      rw [e]
      have hcm := take_map_last (l := c.tab) (f := fun t : UInt8 => jumpM K u.src t.toNat) (n := c.tab.length - 1) (by omega)
      have hn : (code ++ [(⟨c.op, (c.tab.length : Int) - 1, 0, 0⟩ : Flat)] ++ c.tab.map (fun t => jumpM K u.src t.toNat)).length = n2 + 1 := by simp; omega
      refine ⟨ca3, cc3, cd3, s2, rfl, ?_, hm2, ?_⟩
      · rw [hn]
      · rw [hn, ← hcm, ← List.append_assoc, List.flatMap_append]
        rw [hge, ← hla0] at hcd3
        simpa using hcd3
    · refine SPL_y (y_not_t rfl) rfl ?_
      refine SPL_nil ?_
      refine thenP_n ?_
      refine SP_cond_f rfl ?_
      refine SP_skip ?_
      refine thenP_n ?_
      refine SP_region ?_
      refine SPL_y (y_move rfl) rfl ?_
      refine SPL_one rfl (SP1_call (pm_dead k (popsM K (labelM c0 ++ [105])).1 s1 hm1 (hK.pops _)) Tryz.call101 rfl rfl (by repeat (first | exact Part.nil _ | (apply Part.cons; (first | exact P0 | exact P1 | exact P2 | exact P3 | exact P4 | exact P5 | exact P6 | exact P7 | exact P8 | exact P9 | exact P10 | exact P11 | exact P12 | exact P13 | exact P14 | exact P15 | exact P16 | exact P17 | exact P18 | exact P19 | exact P20 | exact P21 | exact P22 | exact P23)) | (apply Part.flat; simp only [List.cons_append, List.nil_append]) | (apply Part.nilc))) ?_)
      rintro v post H' ⟨s2, rfl, rfl, hm2⟩ hH
      try simp only [List.cons_append, List.nil_append] at hH
      subst hH
      refine SPL_nil ?_
      refine inBlockP_n ?_
      refine thenP_n ?_
      refine SP_seq ?_
      refine SP_draw 7 [(0, 0), (1, 0), (2, 0), (3, 0), (4, 1), (5, 1), (6, 2), (7, 3), (8, 0), (9, 0), (10, 3)] mixed (by kernel_rfl) (fun _ _ _ _ _ h => h) (Part.refl _) ?_
      refine SPO_p rfl (y_move rfl) rfl ?_
      refine SPO_p rfl (y_move rfl) rfl ?_
      refine SPO_p rfl (y_nil rfl) rfl ?_
      refine SPO_p rfl (y_fa fld_164_4 rfl) rfl ?_
      refine SPO_h rfl (y_load Tryz.isAgg106 rfl (by repeat (first | exact row_cell (q := 4) rfl | apply Cell.tail))) rfl ?_
      refine SPO_h rfl (y_loads Tryz.isAgg181 Tryz.sizeOf181 rfl rfl (by repeat (first | exact Cells.all _ | exact Cells.head rfl | apply Cells.tail))) rfl ?_
      refine SPO_a rfl rfl (SP1_slice1 el_106 rfl rfl rfl rfl rfl ?_)
      intro b512
      refine ⟨⟨_, (by repeat (first | exact Part.nil _ | (apply Part.cons; (first | exact P0 | exact P1 | exact P2 | exact P3 | exact P4 | exact P5 | exact P6 | exact P7 | exact P8 | exact P9 | exact P10 | exact P11 | exact P12 | exact P13 | exact P14 | exact P15 | exact P16 | exact P17 | exact P18 | exact P19 | exact P20 | exact P21 | exact P22 | exact P23)) | (apply Part.flat; simp only [List.cons_append, List.nil_append]) | (apply Part.nilc)))⟩, ?_⟩
      refine SPO_z (k := 0) rfl rfl (SP1_append el_106 (.inl Tryz.underlying106) rfl rfl hcd2 (by first | exact P0 | exact P1 | exact P2 | exact P3 | exact P4 | exact P5 | exact P6 | exact P7 | exact P8 | exact P9 | exact P10 | exact P11 | exact P12 | exact P13 | exact P14 | exact P15 | exact P16 | exact P17 | exact P18 | exact P19 | exact P20 | exact P21 | exact P22 | exact P23) (Src.of (by repeat (first | exact Cells.all _ | exact Cells.head rfl | apply Cells.tail)) (by rfl)) (by rfl) (by omega) rfl ?_)
      intro ca3 cc3 cd3 hcd3
      refine SPO_p rfl (y_nil rfl) rfl ?_
      refine SPO_p rfl (y_fa fld_164_4 rfl) rfl ?_
      refine SPO_z (k := 0) rfl rfl (SP1_store Tryz.sizeOf106 rfl rfl rfl (by first | exact U0 | exact U1 | exact U2 | exact U3 | exact U4 | exact U5 | exact U6 | exact U7 | exact U8 | exact U9 | exact U10 | exact U11 | exact U12 | exact U13 | exact U14 | exact U15 | exact U16 | exact U17 | exact U18 | exact U19 | exact U20 | exact U21 | exact U22 | exact U23) (row_ble (r := rowM u (some ⟨bs, 0, none⟩) sc ca2 n2 cc2) (q := 4) (show 4 < 5 by decide)) ?_)
      rw [row_set (r := rowM u (some ⟨bs, 0, none⟩) sc ca2 n2 cc2) (q := 4) (show 4 < 5 by decide)]
      refine SPO_nil ?_
      refine thenP_n ?_
      refine SP_seq ?_
      refine SP_region ?_
      refine SPL_y (y_move rfl) rfl ?_
      refine SPL_one rfl (SP1_call (pm_typed _) Tryz.call95 rfl rfl (by repeat (first | exact Part.nil _ | (apply Part.cons; (first | exact P0 | exact P1 | exact P2 | exact P3 | exact P4 | exact P5 | exact P6 | exact P7 | exact P8 | exact P9 | exact P10 | exact P11 | exact P12 | exact P13 | exact P14 | exact P15 | exact P16 | exact P17 | exact P18 | exact P19 | exact P20 | exact P21 | exact P22 | exact P23)) | (apply Part.flat; simp only [List.cons_append, List.nil_append]) | (apply Part.nilc))) ?_)
      rintro v post H' ⟨rfl, rfl⟩ hH
      try simp only [List.cons_append, List.nil_append] at hH
      subst hH
      refine SPL_y (y_assign rfl) rfl ?_
      refine SPL_nil ?_
      refine thenP_n ?_
      refine SP_ret ?_
      refine bodyP_ret (H' := [blk pb 159 [nv, mnv, mxv, stv, .slice (some ⟨bf, 0, none⟩) fs.length fc], blk bf 164 (la ++ rowM u (some ⟨bs, 0, none⟩) sc ca3 (n2 + 1) cc3 ++ lb ++ sp), s2, blk bs 87 (codeV u.src ++ sps), cd3]) (Res1 rfl rfl) (by repeat (first | exact Part.nil _ | (apply Part.cons; (first | exact P0 | exact P1 | exact P2 | exact P3 | exact P4 | exact P5 | exact P6 | exact P7 | exact P8 | exact P9 | exact P10 | exact P11 | exact P12 | exact P13 | exact P14 | exact P15 | exact P16 | exact P17 | exact P18 | exact P19 | exact P20 | exact P21 | exact P22 | exact P23)) | (apply Part.flat; simp only [List.cons_append, List.nil_append]) | (apply Part.nilc))) ?_
      have hge : (c.tab.getD (c.tab.length - 1) 0) = la0 := by rw [List.getD_eq_getElem?_getD, List.getElem?_eq_getElem hle1, hla0]; rfl
      have e : oneM fs u code K i c = (deadM (popsM K (labelM c0 ++ [105])).1, code ++ [(⟨c.op, (c.tab.length : Int) - 1, 0, 0⟩ : Flat)] ++ c.tab.map (fun t => jumpM K u.src t.toNat), typedM ok) := by
        unfold oneM; rw [if_neg (by omega), if_neg (by omega), if_neg (by omega), if_neg (by omega), if_pos hop]; unfold tableM
        rw [if_neg (by rw [List.any_eq_true]; rintro ⟨t, ht, h2⟩; have := of_decide_eq_true h2; have := hall t ht; omega)]
        dsimp only
        rw [hge, hlab, hb1, Bool.and_true, ← hok, hop]
      rw [e]
      have hcm := take_map_last (l := c.tab) (f := fun t : UInt8 => jumpM K u.src t.toNat) (n := c.tab.length - 1) (by omega)
      have hn : (code ++ [(⟨c.op, (c.tab.length : Int) - 1, 0, 0⟩ : Flat)] ++ c.tab.map (fun t => jumpM K u.src t.toNat)).length = n2 + 1 := by simp; omega
      refine ⟨ca3, cc3, cd3, s2, rfl, ?_, hm2, ?_⟩
      · rw [hn]
      · rw [hn, ← hcm, ← List.append_assoc, List.flatMap_append]
        rw [hge, ← hla0] at hcd3
        simpa using hcd3
  intro h55_4
  refine SPL_nil ?_
  refine thenP_n ?_
  refine SP_cond_t rfl ?_
  refine SP_skip ?_
  refine thenP_n ?_
  refine SP_seq ?_
  refine SP_block ?_
  refine SP_seq ?_
  refine SP_seq ?_
  have hjl : j < c.tab.length := by omega
  have hjc := hall c.tab[j] (List.getElem_mem _)
  obtain ⟨cj, hcj⟩ : ∃ x, K.cs[K.cs.length - 1 - c.tab[j].toNat] = x := ⟨_, rfl⟩
  have hlj : K.lab c.tab[j].toNat = cj := by rw [labM_eq hjc, hcj]
  refine SP_draw 18 [(0, 0), (1, 0), (2, 0), (4, 0), (5, 0), (6, 0), (10, 0), (12, 0), (19, 0), (3, 1), (7, 1), (8, 0), (9, 0), (11, 1), (13, 0), (14, 0), (15, 0), (16, 0), (17, 1), (18, 3), (20, 0)] mixed (by kernel_rfl) (fun _ _ _ _ _ h => h) (Part.refl _) ?_
  refine SPO_p rfl (y_move rfl) rfl ?_
  refine SPO_p rfl (y_nil rfl) rfl ?_
  refine SPO_p rfl (y_fa fld_174_1 rfl) rfl ?_
  refine SPO_p rfl (y_move rfl) rfl ?_
  refine SPO_p rfl (y_nil rfl) rfl ?_
  refine SPO_p rfl (y_fa fld_174_1 rfl) rfl ?_
  refine SPO_p rfl (y_fa fld_87_2 rfl) rfl ?_
  refine SPO_p rfl (y_move rfl) rfl ?_
  refine SPO_p rfl (y_move rfl) rfl ?_
  refine SPO_h rfl (y_load Tryz.isAgg172 rfl (by repeat (first | exact Cell.head rfl | apply Cell.tail))) rfl ?_
  refine SPO_h rfl (y_load Tryz.isAgg172 rfl (by repeat (first | exact Cell.head rfl | apply Cell.tail))) rfl ?_
  refine SPO_p rfl (y_len_l Tryz.underlying172 rfl) rfl ?_
  refine SPO_p rfl (y_sub rfl rfl (by omega)) rfl ?_
  refine SPO_h rfl (y_load Tryz.isAgg9 rfl (by repeat (first | exact Cell.head rfl | apply Cell.tail))) rfl ?_
  refine SPO_p rfl (y_idx_s Tryz.underlying9 rfl rfl (by omega) (show c.tab[((j : Nat) : Int).toNat]? = some c.tab[j] by rw [Int.toNat_natCast]; exact List.getElem?_eq_getElem hjl)) rfl ?_
  refine SPO_p rfl (y_conv Tryz.underlying5 Tryz.underlying3 rfl (wrap_i64 (x := (c.tab[j].toNat : Int)) (by omega) (by have := UInt8.toNat_lt c.tab[j]; omega))) rfl ?_
  refine SPO_p rfl (y_sub rfl rfl (by omega)) rfl ?_
  refine SPO_p rfl (y_ia Tryz.underlying172 Tryz.sizeOf171 rfl rfl (by omega)) rfl ?_
  refine SPO_h rfl (y_loads Tryz.isAgg171 Tryz.sizeOf171 rfl rfl (by repeat (first | exact flat_cellsE ctlV_len (i := K.cs.length - 1 - c.tab[j].toNat) (by omega) (by omega) hcj | apply Cells.tail))) rfl ?_
  refine SPO_z (k := 0) rfl rfl (SP1_call (pm_label cj) Tryz.call99 rfl rfl (by repeat (first | exact Part.nil _ | (apply Part.cons; (first | exact P0 | exact P1 | exact P2 | exact P3 | exact P4 | exact P5 | exact P6 | exact P7 | exact P8 | exact P9 | exact P10 | exact P11 | exact P12 | exact P13 | exact P14 | exact P15 | exact P16 | exact P17 | exact P18 | exact P19 | exact P20 | exact P21 | exact P22 | exact P23)) | (apply Part.flat; simp only [List.cons_append, List.nil_append]) | (apply Part.nilc))) ?_)
  rintro v post H' ⟨rfl, rfl⟩ hH
  try simp only [List.cons_append, List.nil_append] at hH
  subst hH
  refine SPO_ifn rfl (y_sne rfl rfl) rfl ?_ ?_
  · intro h57_20
    refine SPO_nil ?_
    refine thenP_n ?_
    refine SP_cond_f rfl ?_
    refine SP_skip ?_
    refine thenP_n ?_
    refine SP_seq ?_
    refine SP_draw 10 [(0, 0), (1, 0), (2, 0), (3, 0), (5, 0), (7, 0), (4, 1), (6, 1), (8, 0), (9, 0), (10, 3), (11, 3)] mixed (by kernel_rfl) (fun _ _ _ _ _ h => h) (Part.refl _) ?_
    refine SPO_p rfl (y_move rfl) rfl ?_
    refine SPO_p rfl (y_move rfl) rfl ?_
    refine SPO_p rfl (y_nil rfl) rfl ?_
    refine SPO_p rfl (y_fa fld_164_3 rfl) rfl ?_
    refine SPO_p rfl (y_fa fld_87_2 rfl) rfl ?_
    refine SPO_p rfl (y_move rfl) rfl ?_
    refine SPO_h rfl (y_load Tryz.isAgg34 rfl (by repeat (first | exact row_cell (q := 3) rfl | apply Cell.tail))) rfl ?_
    refine SPO_h rfl (y_load Tryz.isAgg9 rfl (by repeat (first | exact Cell.head rfl | apply Cell.tail))) rfl ?_
    refine SPO_p rfl (y_idx_s Tryz.underlying9 rfl rfl (by omega) (show c.tab[((j : Nat) : Int).toNat]? = some c.tab[j] by rw [Int.toNat_natCast]; exact List.getElem?_eq_getElem hjl)) rfl ?_
    refine SPO_p rfl (y_conv Tryz.underlying5 Tryz.underlying3 rfl (wrap_i64 (x := (c.tab[j].toNat : Int)) (by omega) (by have := UInt8.toNat_lt c.tab[j]; omega))) rfl ?_
    refine SPO_z (k := 0) rfl rfl (SP1_call (pm_jump k K _ hm0 hK (some ⟨bs, 0, none⟩) sc u.src _ hs c.tab[j].toNat (by omega) (by omega) hsl htab (hL.at_ _ (by omega)) (hL.lp _ (by omega))) Tryz.call98 rfl rfl (by repeat (first | exact Part.nil _ | (apply Part.cons; (first | exact P0 | exact P1 | exact P2 | exact P3 | exact P4 | exact P5 | exact P6 | exact P7 | exact P8 | exact P9 | exact P10 | exact P11 | exact P12 | exact P13 | exact P14 | exact P15 | exact P16 | exact P17 | exact P18 | exact P19 | exact P20 | exact P21 | exact P22 | exact P23)) | (apply Part.flat; simp only [List.cons_append, List.nil_append]) | (apply Part.nilc))) ?_)
    rintro v post H' ⟨rfl, rfl⟩ hH
    try simp only [List.cons_append, List.nil_append] at hH
    subst hH
    refine SPO_z (k := 0) rfl rfl (SP1_storeAll Tryz.sizeOf181 rfl rfl rfl rfl rfl (by first | exact U0 | exact U1 | exact U2 | exact U3 | exact U4 | exact U5 | exact U6 | exact U7 | exact U8 | exact U9 | exact U10 | exact U11 | exact U12 | exact U13 | exact U14 | exact U15 | exact U16 | exact U17 | exact U18 | exact U19 | exact U20 | exact U21 | exact U22 | exact U23) (by rfl) ?_)
    refine SPO_nil ?_
    refine thenP_n ?_
    refine SP_seq ?_
    refine SP_openAt [blk k 174 [.slice ta K.st.length tc, .slice (some ⟨bo, 0, none⟩) K.cs.length oc], st, blk bo 171 (K.cs.flatMap ctlV ++ spo)] (by first | exact P0 | exact P1 | exact P2 | exact P3 | exact P4 | exact P5 | exact P6 | exact P7 | exact P8 | exact P9 | exact P10 | exact P11 | exact P12 | exact P13 | exact P14 | exact P15 | exact P16 | exact P17 | exact P18 | exact P19 | exact P20 | exact P21 | exact P22 | exact P23) ?_
    simp only [List.cons_append, List.nil_append]
    refine SP_region ?_
    refine SPL_y (y_move rfl) rfl ?_
    refine SPL_y (y_fa fld_87_2 rfl) rfl ?_
    refine SPL_y (y_load Tryz.isAgg9 rfl (by repeat (first | exact Cell.head rfl | apply Cell.tail))) rfl ?_
    refine SPL_y (y_len_s Tryz.underlying9 rfl) rfl ?_
    refine SPL_y (y_sub rfl rfl (by omega)) rfl ?_
    refine SPL_ifn (y_lss rfl rfl) rfl ?_ ?_
    · intro h60_5
      refine SPL_nil ?_
      refine thenP_n ?_
      refine SP_cond_f rfl ?_
      refine SP_skip ?_
      refine inBlockP_n ?_
      refine thenP_n ?_
      refine SP_region ?_
      refine SPL_y (y_move rfl) rfl ?_
      refine SPL_y (y_add rfl rfl (by omega)) rfl ?_
      refine SPL_y (y_assign rfl) rfl ?_
      refine SPL_nil ?_
      refine thenP_n ?_
      exact Again.intro ((j + 1, ok, jumpM K u.src c.tab[j].toNat, ca2, cc2, cd2, n2)) (⟨by dsimp only; omega, by dsimp only; rw [all_succ hjl, ← hok, hlj, decide_eq_true (Decidable.not_not.1 h57_20), Bool.and_true], by dsimp only; rw [if_neg (by omega), Nat.add_sub_cancel, List.getD_eq_getElem?_getD, List.getElem?_eq_getElem hjl]; rfl, by dsimp only; omega, by dsimp only; rw [show min (j + 1) (c.tab.length - 1) = min j (c.tab.length - 1) by omega]; exact hcd2⟩) (by simp only []; omega) (by repeat (first | exact Sub.nil _ | refine Sub.cons rfl ?_)) (by repeat (first | exact Part.nil _ | (apply Part.cons; (first | exact P0 | exact P1 | exact P2 | exact P3 | exact P4 | exact P5 | exact P6 | exact P7 | exact P8 | exact P9 | exact P10 | exact P11 | exact P12 | exact P13 | exact P14 | exact P15 | exact P16 | exact P17 | exact P18 | exact P19 | exact P20 | exact P21 | exact P22 | exact P23)) | (apply Part.flat; simp only [List.cons_append, List.nil_append]) | (apply Part.nilc)))
    intro h60_5
    refine SPL_nil ?_
    refine thenP_n ?_
    refine SP_cond_t rfl ?_
    have hmj : min j (c.tab.length - 1) = j := by omega
    rw [hmj] at hcd2
    refine SP_draw 7 [(0, 0), (1, 0), (2, 0), (3, 0), (4, 1), (5, 1), (6, 2), (7, 3), (8, 0), (9, 0), (10, 3)] mixed (by kernel_rfl) (fun _ _ _ _ _ h => h) (Part.refl _) ?_
    refine SPO_p rfl (y_move rfl) rfl ?_
    refine SPO_p rfl (y_move rfl) rfl ?_
    refine SPO_p rfl (y_nil rfl) rfl ?_
    refine SPO_p rfl (y_fa fld_164_4 rfl) rfl ?_
    refine SPO_h rfl (y_load Tryz.isAgg106 rfl (by repeat (first | exact row_cell (q := 4) rfl | apply Cell.tail))) rfl ?_
    refine SPO_h rfl (y_loads Tryz.isAgg181 Tryz.sizeOf181 rfl rfl (by repeat (first | exact Cells.all _ | exact Cells.head rfl | apply Cells.tail))) rfl ?_
    refine SPO_a rfl rfl (SP1_slice1 el_106 rfl rfl rfl rfl rfl ?_)
    intro b379
    refine ⟨⟨_, (by repeat (first | exact Part.nil _ | (apply Part.cons; (first | exact P0 | exact P1 | exact P2 | exact P3 | exact P4 | exact P5 | exact P6 | exact P7 | exact P8 | exact P9 | exact P10 | exact P11 | exact P12 | exact P13 | exact P14 | exact P15 | exact P16 | exact P17 | exact P18 | exact P19 | exact P20 | exact P21 | exact P22 | exact P23)) | (apply Part.flat; simp only [List.cons_append, List.nil_append]) | (apply Part.nilc)))⟩, ?_⟩
    refine SPO_z (k := 0) rfl rfl (SP1_append el_106 (.inl Tryz.underlying106) rfl rfl hcd2 (by first | exact P0 | exact P1 | exact P2 | exact P3 | exact P4 | exact P5 | exact P6 | exact P7 | exact P8 | exact P9 | exact P10 | exact P11 | exact P12 | exact P13 | exact P14 | exact P15 | exact P16 | exact P17 | exact P18 | exact P19 | exact P20 | exact P21 | exact P22 | exact P23) (Src.of (by repeat (first | exact Cells.all _ | exact Cells.head rfl | apply Cells.tail)) (by rfl)) (by rfl) (by omega) rfl ?_)
    intro ca3 cc3 cd3 hcd3
    refine SPO_p rfl (y_nil rfl) rfl ?_
    refine SPO_p rfl (y_fa fld_164_4 rfl) rfl ?_
    refine SPO_z (k := 0) rfl rfl (SP1_store Tryz.sizeOf106 rfl rfl rfl (by first | exact U0 | exact U1 | exact U2 | exact U3 | exact U4 | exact U5 | exact U6 | exact U7 | exact U8 | exact U9 | exact U10 | exact U11 | exact U12 | exact U13 | exact U14 | exact U15 | exact U16 | exact U17 | exact U18 | exact U19 | exact U20 | exact U21 | exact U22 | exact U23) (row_ble (r := rowM u (some ⟨bs, 0, none⟩) sc ca2 n2 cc2) (q := 4) (show 4 < 5 by decide)) ?_)
    rw [row_set (r := rowM u (some ⟨bs, 0, none⟩) sc ca2 n2 cc2) (q := 4) (show 4 < 5 by decide)]
    refine SPO_nil ?_
    refine inBlockP_n ?_
    refine thenP_n ?_
    refine SP_region ?_
    refine SPL_y (y_move rfl) rfl ?_
    refine SPL_y (y_add rfl rfl (by omega)) rfl ?_
    refine SPL_y (y_assign rfl) rfl ?_
    refine SPL_nil ?_
    refine thenP_n ?_
    exact Again.intro ((j + 1, ok, jumpM K u.src c.tab[j].toNat, ca3, cc3, cd3, n2 + 1)) (⟨by dsimp only; omega, by dsimp only; rw [all_succ hjl, ← hok, hlj, decide_eq_true (Decidable.not_not.1 h57_20), Bool.and_true], by dsimp only; rw [if_neg (by omega), Nat.add_sub_cancel, List.getD_eq_getElem?_getD, List.getElem?_eq_getElem hjl]; rfl, by dsimp only; omega, by dsimp only; rw [show min (j + 1) (c.tab.length - 1) = j + 1 by omega, List.take_succ_eq_append_getElem hjl, List.map_append, List.map_singleton, ← List.append_assoc, List.flatMap_append]; simpa using hcd3⟩) (by simp only []; omega) (by repeat (first | exact Sub.nil _ | refine Sub.cons rfl ?_)) (by repeat (first | exact Part.nil _ | (apply Part.cons; (first | exact P0 | exact P1 | exact P2 | exact P3 | exact P4 | exact P5 | exact P6 | exact P7 | exact P8 | exact P9 | exact P10 | exact P11 | exact P12 | exact P13 | exact P14 | exact P15 | exact P16 | exact P17 | exact P18 | exact P19 | exact P20 | exact P21 | exact P22 | exact P23)) | (apply Part.flat; simp only [List.cons_append, List.nil_append]) | (apply Part.nilc)))
  intro h57_20
  refine SPO_nil ?_
  refine thenP_n ?_
  refine SP_cond_t rfl ?_
  refine SP_region ?_
  refine SPL_y (y_assign rfl) rfl ?_
  refine SPL_nil ?_
  refine thenP_n ?_
  refine SP_seq ?_
  refine SP_draw 10 [(0, 0), (1, 0), (2, 0), (3, 0), (5, 0), (7, 0), (4, 1), (6, 1), (8, 0), (9, 0), (10, 3), (11, 3)] mixed (by kernel_rfl) (fun _ _ _ _ _ h => h) (Part.refl _) ?_
  refine SPO_p rfl (y_move rfl) rfl ?_
  refine SPO_p rfl (y_move rfl) rfl ?_
  refine SPO_p rfl (y_nil rfl) rfl ?_
  refine SPO_p rfl (y_fa fld_164_3 rfl) rfl ?_
  refine SPO_p rfl (y_fa fld_87_2 rfl) rfl ?_
  refine SPO_p rfl (y_move rfl) rfl ?_
  refine SPO_h rfl (y_load Tryz.isAgg34 rfl (by repeat (first | exact row_cell (q := 3) rfl | apply Cell.tail))) rfl ?_
  refine SPO_h rfl (y_load Tryz.isAgg9 rfl (by repeat (first | exact Cell.head rfl | apply Cell.tail))) rfl ?_
  refine SPO_p rfl (y_idx_s Tryz.underlying9 rfl rfl (by omega) (show c.tab[((j : Nat) : Int).toNat]? = some c.tab[j] by rw [Int.toNat_natCast]; exact List.getElem?_eq_getElem hjl)) rfl ?_
  refine SPO_p rfl (y_conv Tryz.underlying5 Tryz.underlying3 rfl (wrap_i64 (x := (c.tab[j].toNat : Int)) (by omega) (by have := UInt8.toNat_lt c.tab[j]; omega))) rfl ?_
  refine SPO_z (k := 0) rfl rfl (SP1_call (pm_jump k K _ hm0 hK (some ⟨bs, 0, none⟩) sc u.src _ hs c.tab[j].toNat (by omega) (by omega) hsl htab (hL.at_ _ (by omega)) (hL.lp _ (by omega))) Tryz.call98 rfl rfl (by repeat (first | exact Part.nil _ | (apply Part.cons; (first | exact P0 | exact P1 | exact P2 | exact P3 | exact P4 | exact P5 | exact P6 | exact P7 | exact P8 | exact P9 | exact P10 | exact P11 | exact P12 | exact P13 | exact P14 | exact P15 | exact P16 | exact P17 | exact P18 | exact P19 | exact P20 | exact P21 | exact P22 | exact P23)) | (apply Part.flat; simp only [List.cons_append, List.nil_append]) | (apply Part.nilc))) ?_)
  rintro v post H' ⟨rfl, rfl⟩ hH
  try simp only [List.cons_append, List.nil_append] at hH
  subst hH
  refine SPO_z (k := 0) rfl rfl (SP1_storeAll Tryz.sizeOf181 rfl rfl rfl rfl rfl (by first | exact U0 | exact U1 | exact U2 | exact U3 | exact U4 | exact U5 | exact U6 | exact U7 | exact U8 | exact U9 | exact U10 | exact U11 | exact U12 | exact U13 | exact U14 | exact U15 | exact U16 | exact U17 | exact U18 | exact U19 | exact U20 | exact U21 | exact U22 | exact U23) (by rfl) ?_)
  refine SPO_nil ?_
  refine thenP_n ?_
  refine SP_seq ?_
  refine SP_openAt [blk k 174 [.slice ta K.st.length tc, .slice (some ⟨bo, 0, none⟩) K.cs.length oc], st, blk bo 171 (K.cs.flatMap ctlV ++ spo)] (by first | exact P0 | exact P1 | exact P2 | exact P3 | exact P4 | exact P5 | exact P6 | exact P7 | exact P8 | exact P9 | exact P10 | exact P11 | exact P12 | exact P13 | exact P14 | exact P15 | exact P16 | exact P17 | exact P18 | exact P19 | exact P20 | exact P21 | exact P22 | exact P23) ?_
  simp only [List.cons_append, List.nil_append]
  refine SP_region ?_
  refine SPL_y (y_move rfl) rfl ?_
  refine SPL_y (y_fa fld_87_2 rfl) rfl ?_
  refine SPL_y (y_load Tryz.isAgg9 rfl (by repeat (first | exact Cell.head rfl | apply Cell.tail))) rfl ?_
  refine SPL_y (y_len_s Tryz.underlying9 rfl) rfl ?_
  refine SPL_y (y_sub rfl rfl (by omega)) rfl ?_
  refine SPL_ifn (y_lss rfl rfl) rfl ?_ ?_
  · intro h60_5
    refine SPL_nil ?_
    refine thenP_n ?_
    refine SP_cond_f rfl ?_
    refine SP_skip ?_
    refine inBlockP_n ?_
    refine thenP_n ?_
    refine SP_region ?_
    refine SPL_y (y_move rfl) rfl ?_
    refine SPL_y (y_add rfl rfl (by omega)) rfl ?_
    refine SPL_y (y_assign rfl) rfl ?_
    refine SPL_nil ?_
    refine thenP_n ?_
    exact Again.intro ((j + 1, false, jumpM K u.src c.tab[j].toNat, ca2, cc2, cd2, n2)) (⟨by dsimp only; omega, by dsimp only; rw [all_succ hjl, ← hok, hlj, decide_eq_false h57_20, Bool.and_false], by dsimp only; rw [if_neg (by omega), Nat.add_sub_cancel, List.getD_eq_getElem?_getD, List.getElem?_eq_getElem hjl]; rfl, by dsimp only; omega, by dsimp only; rw [show min (j + 1) (c.tab.length - 1) = min j (c.tab.length - 1) by omega]; exact hcd2⟩) (by simp only []; omega) (by repeat (first | exact Sub.nil _ | refine Sub.cons rfl ?_)) (by repeat (first | exact Part.nil _ | (apply Part.cons; (first | exact P0 | exact P1 | exact P2 | exact P3 | exact P4 | exact P5 | exact P6 | exact P7 | exact P8 | exact P9 | exact P10 | exact P11 | exact P12 | exact P13 | exact P14 | exact P15 | exact P16 | exact P17 | exact P18 | exact P19 | exact P20 | exact P21 | exact P22 | exact P23)) | (apply Part.flat; simp only [List.cons_append, List.nil_append]) | (apply Part.nilc)))
  intro h60_5
  refine SPL_nil ?_
  refine thenP_n ?_
  refine SP_cond_t rfl ?_
  have hmj : min j (c.tab.length - 1) = j := by omega
  rw [hmj] at hcd2
  refine SP_draw 7 [(0, 0), (1, 0), (2, 0), (3, 0), (4, 1), (5, 1), (6, 2), (7, 3), (8, 0), (9, 0), (10, 3)] mixed (by kernel_rfl) (fun _ _ _ _ _ h => h) (Part.refl _) ?_
  refine SPO_p rfl (y_move rfl) rfl ?_
  refine SPO_p rfl (y_move rfl) rfl ?_
  refine SPO_p rfl (y_nil rfl) rfl ?_
  refine SPO_p rfl (y_fa fld_164_4 rfl) rfl ?_
  refine SPO_h rfl (y_load Tryz.isAgg106 rfl (by repeat (first | exact row_cell (q := 4) rfl | apply Cell.tail))) rfl ?_
  refine SPO_h rfl (y_loads Tryz.isAgg181 Tryz.sizeOf181 rfl rfl (by repeat (first | exact Cells.all _ | exact Cells.head rfl | apply Cells.tail))) rfl ?_
  refine SPO_a rfl rfl (SP1_slice1 el_106 rfl rfl rfl rfl rfl ?_)
  intro b379
  refine ⟨⟨_, (by repeat (first | exact Part.nil _ | (apply Part.cons; (first | exact P0 | exact P1 | exact P2 | exact P3 | exact P4 | exact P5 | exact P6 | exact P7 | exact P8 | exact P9 | exact P10 | exact P11 | exact P12 | exact P13 | exact P14 | exact P15 | exact P16 | exact P17 | exact P18 | exact P19 | exact P20 | exact P21 | exact P22 | exact P23)) | (apply Part.flat; simp only [List.cons_append, List.nil_append]) | (apply Part.nilc)))⟩, ?_⟩
  refine SPO_z (k := 0) rfl rfl (SP1_append el_106 (.inl Tryz.underlying106) rfl rfl hcd2 (by first | exact P0 | exact P1 | exact P2 | exact P3 | exact P4 | exact P5 | exact P6 | exact P7 | exact P8 | exact P9 | exact P10 | exact P11 | exact P12 | exact P13 | exact P14 | exact P15 | exact P16 | exact P17 | exact P18 | exact P19 | exact P20 | exact P21 | exact P22 | exact P23) (Src.of (by repeat (first | exact Cells.all _ | exact Cells.head rfl | apply Cells.tail)) (by rfl)) (by rfl) (by omega) rfl ?_)
  intro ca3 cc3 cd3 hcd3
  refine SPO_p rfl (y_nil rfl) rfl ?_
  refine SPO_p rfl (y_fa fld_164_4 rfl) rfl ?_
  refine SPO_z (k := 0) rfl rfl (SP1_store Tryz.sizeOf106 rfl rfl rfl (by first | exact U0 | exact U1 | exact U2 | exact U3 | exact U4 | exact U5 | exact U6 | exact U7 | exact U8 | exact U9 | exact U10 | exact U11 | exact U12 | exact U13 | exact U14 | exact U15 | exact U16 | exact U17 | exact U18 | exact U19 | exact U20 | exact U21 | exact U22 | exact U23) (row_ble (r := rowM u (some ⟨bs, 0, none⟩) sc ca2 n2 cc2) (q := 4) (show 4 < 5 by decide)) ?_)
  rw [row_set (r := rowM u (some ⟨bs, 0, none⟩) sc ca2 n2 cc2) (q := 4) (show 4 < 5 by decide)]
  refine SPO_nil ?_
  refine inBlockP_n ?_
  refine thenP_n ?_
  refine SP_region ?_
  refine SPL_y (y_move rfl) rfl ?_
  refine SPL_y (y_add rfl rfl (by omega)) rfl ?_
  refine SPL_y (y_assign rfl) rfl ?_
  refine SPL_nil ?_
  refine thenP_n ?_
  exact Again.intro ((j + 1, false, jumpM K u.src c.tab[j].toNat, ca3, cc3, cd3, n2 + 1)) (⟨by dsimp only; omega, by dsimp only; rw [all_succ hjl, ← hok, hlj, decide_eq_false h57_20, Bool.and_false], by dsimp only; rw [if_neg (by omega), Nat.add_sub_cancel, List.getD_eq_getElem?_getD, List.getElem?_eq_getElem hjl]; rfl, by dsimp only; omega, by dsimp only; rw [show min (j + 1) (c.tab.length - 1) = j + 1 by omega, List.take_succ_eq_append_getElem hjl, List.map_append, List.map_singleton, ← List.append_assoc, List.flatMap_append]; simpa using hcd3⟩) (by simp only []; omega) (by repeat (first | exact Sub.nil _ | refine Sub.cons rfl ?_)) (by repeat (first | exact Part.nil _ | (apply Part.cons; (first | exact P0 | exact P1 | exact P2 | exact P3 | exact P4 | exact P5 | exact P6 | exact P7 | exact P8 | exact P9 | exact P10 | exact P11 | exact P12 | exact P13 | exact P14 | exact P15 | exact P16 | exact P17 | exact P18 | exact P19 | exact P20 | exact P21 | exact P22 | exact P23)) | (apply Part.flat; simp only [List.cons_append, List.nil_append]) | (apply Part.nilc)))

end Go.Sl
