/- Walks: package prepm, blocks (made by program out of short notes) -/
import Derived.Test.Qxb6500572aGreatDoorWPmD
namespace Go.Sl
open Go Go.Wl Go.Proofs
set_option maxRecDepth 100000
set_option linter.unusedVariables false
set_option linter.unusedSimpArgs false
theorem ctl1 {a : Option Addr} {c : Nat} {cs : List Ctl} {x : Ctl} {s : Seg} (h : Arr 171 5 a (cs.length + 1) c (cs.flatMap ctlV ++ ctlV x) s) : Arr 171 5 a (cs.length + 1) c ((cs ++ [x]).flatMap ctlV) s := by
  rw [List.flatMap_append]; simpa using h
theorem closesM_cs (K : Km) : (closesM K).1.cs = K.cs := popsM_cs K _
theorem KB.closes {K : Km} (h : KB K) : KB (closesM K).1 := h.pops _
theorem lab0 (K : Km) : K.lab 0 = K.top := rfl

set_option maxHeartbeats 4000000 in
theorem pm_one_blk1 (pb k bf : Nat) (nv mnv mxv stv : Value) (fc : Nat) (fs : List Fm) (u : Fm) (la lb sp : List Value) (sa : Option Addr) (sc : Nat) (ca : Option Addr) (cc : Nat) (code : List Flat) (sv cd : Seg) (K : Km) (s : Seg) (i : Nat) (c : Ins)
    (hi : i < u.src.length) (hci : u.src[i] = c) (hs : Arr 87 3 sa u.src.length sc (codeV u.src) sv) (hcd : Arr 181 4 ca code.length cc (code.flatMap flatV) cd) (hm : isKm k K s) (hK : KB K) (hL : LabOk K u.src)
    (hsl : u.src.length ≤ 1000) (htab : ∀ c, c ∈ u.src → c.tab.length ≤ 5) (hcl : code.length ≤ 100000) (hpl : u.params.length ≤ 100 ∧ u.results.length ≤ 100 ∧ u.locals.length ≤ 100)
    (hfs : ∀ (g : Nat) (f : Fm), fs[g]? = some f → (la ++ rowM u sa sc ca code.length cc ++ lb)[g * 5]? = some (S f.params) ∧ (la ++ rowM u sa sc ca code.length cc ++ lb)[g * 5 + 1]? = some (S f.results) ∧ f.params.length ≤ 100 ∧ f.results.length ≤ 100) (hfl : fs.length ≤ 1000) (hw : well c = true) (hop : c.op = 1) : Spec Tryz.prog 73 [.pointer (some ⟨pb, 0, none⟩), .pointer (some ⟨k, 0, none⟩), .pointer (some ⟨bf, la.length, none⟩), I i] [blk pb 159 [nv, mnv, mxv, stv, .slice (some ⟨bf, 0, none⟩) fs.length fc], blk bf 164 (la ++ rowM u sa sc ca code.length cc ++ lb ++ sp), s, sv, cd] (Ret fun v H => ∃ ca' cc' cd' s', v = I (oneM fs u code K i c).2.2 ∧ H = [blk pb 159 [nv, mnv, mxv, stv, .slice (some ⟨bf, 0, none⟩) fs.length fc], blk bf 164 (la ++ rowM u sa sc ca' (oneM fs u code K i c).2.1.length cc' ++ lb ++ sp), s', sv, cd'] ∧ isKm k (oneM fs u code K i c).1 s' ∧ Arr 181 4 ca' (oneM fs u code K i c).2.1.length cc' ((oneM fs u code K i c).2.1.flatMap flatV) cd') := by
  have hp := hK.pos
  have hz1 := hK.st
  have hz2 := hK.cs
  refine Spec_enter Tryz.func73 rfl Tryz.ntmps73 rfl ?_
  show SP _ _ _ _ _ [(0, _), (1, _), (2, _), (3, _)] _
  refine SP_seq ?_
  refine SP_region ?_
  refine SPL_y (y_assign rfl) rfl ?_
  refine SPL_nil ?_
  refine thenP_n ?_
  refine SP_seq ?_
  obtain ⟨bs, sps, rfl, hsc, hsps, rfl⟩ := hs.row (by omega)
  refine SP_region ?_
  refine SPL_y (y_move rfl) rfl ?_
  refine SPL_y (y_nil rfl) rfl ?_
  refine SPL_y (y_fa fld_164_3 rfl) rfl ?_
  refine SPL_y (y_load Tryz.isAgg34 rfl (by repeat (first | exact row_cell (q := 3) rfl | apply Cell.tail))) rfl ?_
  refine SPL_y (y_move rfl) rfl ?_
  refine SPL_y (y_ia Tryz.underlying34 Tryz.sizeOf87 rfl rfl (by omega)) rfl ?_
  refine SPL_y (y_loads Tryz.isAgg87 Tryz.sizeOf87 rfl rfl (by repeat (first | exact flat_cellsE insV_len (i := i) rfl hi hci | apply Cells.tail))) rfl ?_
  refine SPL_one rfl (SP1_alloc Tryz.zeroValue87 rfl rfl ?_)
  intro b9
  refine SPL_one rfl (SP1_storeAll Tryz.sizeOf87 rfl rfl rfl rfl rfl (by first | exact U0 | exact U1 | exact U2 | exact U3 | exact U4 | exact U5 | exact U6 | exact U7 | exact U8 | exact U9 | exact U10 | exact U11 | exact U12 | exact U13 | exact U14 | exact U15 | exact U16 | exact U17 | exact U18 | exact U19 | exact U20 | exact U21 | exact U22 | exact U23) (by rfl) ?_)
  refine SPL_y (y_assign rfl) rfl ?_
  refine SPL_nil ?_
  refine thenP_n ?_
  refine SP_seq ?_
  refine SP_region ?_
  refine SPL_y (y_fa fld_87_0 rfl) rfl ?_
  refine SPL_y (y_load Tryz.isAgg3 rfl (by repeat (first | exact Cell.head rfl | apply Cell.tail))) rfl ?_
  refine SPL_y (y_fa fld_87_1 rfl) rfl ?_
  refine SPL_y (y_load Tryz.isAgg3 rfl (by repeat (first | exact Cell.head rfl | apply Cell.tail))) rfl ?_
  refine SPL_y (y_build B181 rfl rfl (by simp only [fillL, List.foldl_cons, List.foldl_nil, List.set_cons_zero, List.set_cons_succ]; exact rfl)) rfl ?_
  refine SPL_one rfl (SP1_alloc Tryz.zeroValue181 rfl rfl ?_)
  intro b11
  refine SPL_one rfl (SP1_storeAll Tryz.sizeOf181 rfl rfl rfl rfl rfl (by first | exact U0 | exact U1 | exact U2 | exact U3 | exact U4 | exact U5 | exact U6 | exact U7 | exact U8 | exact U9 | exact U10 | exact U11 | exact U12 | exact U13 | exact U14 | exact U15 | exact U16 | exact U17 | exact U18 | exact U19 | exact U20 | exact U21 | exact U22 | exact U23) (by rfl) ?_)
  refine SPL_nil ?_
  refine thenP_n ?_
  refine SP_seq ?_
  refine SP_draw 999 [(0, 0), (1, 0), (2, 0), (4, 0), (5, 0), (6, 0), (3, 1), (7, 1), (8, 0), (9, 0)] mixed (by kernel_rfl) (fun _ _ _ _ _ h => h) (Part.refl _) ?_
  refine SPO_p rfl (y_move rfl) rfl ?_
  refine SPO_p rfl (y_nil rfl) rfl ?_
  refine SPO_p rfl (y_fa fld_164_0 rfl) rfl ?_
  refine SPO_p rfl (y_move rfl) rfl ?_
  refine SPO_p rfl (y_nil rfl) rfl ?_
  refine SPO_p rfl (y_fa fld_164_2 rfl) rfl ?_
  refine SPO_h rfl (y_load Tryz.isAgg9 rfl (by repeat (first | exact row_cell (q := 0) rfl | apply Cell.tail))) rfl ?_
  refine SPO_h rfl (y_load Tryz.isAgg9 rfl (by repeat (first | exact row_cell (q := 2) rfl | apply Cell.tail))) rfl ?_
  refine SPO_p rfl (y_cat rfl rfl (by first | omega | (simp; omega))) rfl ?_
  refine SPO_p rfl (y_assign rfl) rfl ?_
  refine SPO_nil ?_
  refine thenP_n ?_
  refine SP_seq ?_
  refine SP_seq ?_
  refine SP_region ?_
  refine SPL_y (y_fa fld_87_0 rfl) rfl ?_
  refine SPL_y (y_load Tryz.isAgg3 rfl (by repeat (first | exact Cell.head rfl | apply Cell.tail))) rfl ?_
  refine SPL_nil ?_
  refine thenP_n ?_
  refine SP_block ?_
  refine SP_seq ?_
  refine SP_seq ?_
  refine SP_region ?_
  refine SPL_y (y_eqlT rfl rfl hop) rfl ?_
  refine SPL_y (y_assign rfl) rfl ?_
  refine SPL_nil ?_
  refine thenP_n ?_
  refine SP_cond_t rfl ?_
  refine SP_skip ?_
  refine thenP_n ?_
  refine SP_cond_t rfl ?_
  refine SP_seq ?_
  refine SP_seq ?_
  refine SP_region ?_
  refine SPL_y (y_fa fld_87_0 rfl) rfl ?_
  refine SPL_y (y_load Tryz.isAgg3 rfl (by repeat (first | exact Cell.head rfl | apply Cell.tail))) rfl ?_
  refine SPL_y (y_eqlF rfl rfl (by omega)) rfl ?_
  refine SPL_nil ?_
  refine thenP_n ?_
  refine SP_cond_f rfl ?_
  refine SP_skip ?_
  refine thenP_n ?_
  refine SP_seq ?_
  obtain ⟨ta, tc, oa, oc, st, so, rfl, hst, hop_⟩ := hm
  refine SP_openAt [blk k 174 [.slice ta K.st.length tc, .slice oa K.cs.length oc], st, so] (by first | exact P0 | exact P1 | exact P2 | exact P3 | exact P4 | exact P5 | exact P6 | exact P7 | exact P8 | exact P9 | exact P10 | exact P11 | exact P12 | exact P13 | exact P14 | exact P15 | exact P16 | exact P17 | exact P18 | exact P19 | exact P20 | exact P21 | exact P22 | exact P23) ?_
  simp only [List.cons_append, List.nil_append]
  refine SP_draw 17 [(0, 0), (1, 0), (2, 0), (3, 0), (5, 0), (7, 0), (9, 0), (10, 0), (11, 0), (14, 0), (4, 1), (6, 1), (8, 1), (12, 1), (13, 0), (15, 0), (16, 2), (17, 3), (18, 0), (19, 0), (20, 3)] mixed (by kernel_rfl) (fun _ _ _ _ _ h => h) (Part.refl _) ?_
  refine SPO_p rfl (y_move rfl) rfl ?_
  refine SPO_p rfl (y_move rfl) rfl ?_
  refine SPO_p rfl (y_nil rfl) rfl ?_
  refine SPO_p rfl (y_fa fld_174_1 rfl) rfl ?_
  refine SPO_p rfl (y_fa fld_87_0 rfl) rfl ?_
  refine SPO_p rfl (y_fa fld_87_1 rfl) rfl ?_
  refine SPO_p rfl (y_move rfl) rfl ?_
  refine SPO_p rfl (y_nil rfl) rfl ?_
  refine SPO_p rfl (y_fa fld_174_0 rfl) rfl ?_
  refine SPO_p rfl (y_move rfl) rfl ?_
  refine SPO_h rfl (y_load Tryz.isAgg172 rfl (by repeat (first | exact Cell.head rfl | apply Cell.tail))) rfl ?_
  refine SPO_h rfl (y_load Tryz.isAgg3 rfl (by repeat (first | exact Cell.head rfl | apply Cell.tail))) rfl ?_
  refine SPO_h rfl (y_load Tryz.isAgg3 rfl (by repeat (first | exact Cell.head rfl | apply Cell.tail))) rfl ?_
  refine SPO_h rfl (y_load Tryz.isAgg144 rfl (by repeat (first | exact Cell.head rfl | apply Cell.tail))) rfl ?_
  refine SPO_p rfl (y_len_l Tryz.underlying144 rfl) rfl ?_
  refine SPO_p rfl (y_build B171 rfl rfl (by simp only [fillL, List.foldl_cons, List.foldl_nil, List.set_cons_zero, List.set_cons_succ]; exact rfl)) rfl ?_
  refine SPO_a rfl rfl (SP1_slice1 el_172 rfl rfl rfl rfl rfl ?_)
  intro b119
  refine ⟨⟨_, (by repeat (first | exact Part.nil _ | (apply Part.cons; (first | exact P0 | exact P1 | exact P2 | exact P3 | exact P4 | exact P5 | exact P6 | exact P7 | exact P8 | exact P9 | exact P10 | exact P11 | exact P12 | exact P13 | exact P14 | exact P15 | exact P16 | exact P17 | exact P18 | exact P19 | exact P20 | exact P21 | exact P22 | exact P23)) | (apply Part.flat; simp only [List.cons_append, List.nil_append]) | (apply Part.nilc)))⟩, ?_⟩
  refine SPO_z (k := 0) rfl rfl (SP1_append el_172 (.inl Tryz.underlying172) rfl rfl hop_ (by first | exact P0 | exact P1 | exact P2 | exact P3 | exact P4 | exact P5 | exact P6 | exact P7 | exact P8 | exact P9 | exact P10 | exact P11 | exact P12 | exact P13 | exact P14 | exact P15 | exact P16 | exact P17 | exact P18 | exact P19 | exact P20 | exact P21 | exact P22 | exact P23) (Src.of (by repeat (first | exact Cells.all _ | exact Cells.head rfl | apply Cells.tail)) (by rfl)) (by rfl) (by omega) rfl ?_)
  intro oa1 oc1 so1 hcs1
  refine SPO_p rfl (y_nil rfl) rfl ?_
  refine SPO_p rfl (y_fa fld_174_1 rfl) rfl ?_
  refine SPO_z (k := 0) rfl rfl (SP1_store Tryz.sizeOf172 rfl rfl rfl (by first | exact U0 | exact U1 | exact U2 | exact U3 | exact U4 | exact U5 | exact U6 | exact U7 | exact U8 | exact U9 | exact U10 | exact U11 | exact U12 | exact U13 | exact U14 | exact U15 | exact U16 | exact U17 | exact U18 | exact U19 | exact U20 | exact U21 | exact U22 | exact U23) (by rfl) ?_)
  refine SPO_nil ?_
  refine thenP_n ?_
  refine SP_seq ?_
  refine SP_region ?_
  refine SPL_y (y_move rfl) rfl ?_
  refine SPL_one rfl (SP1_call (pm_typed _) Tryz.call95 rfl rfl (by repeat (first | exact Part.nil _ | (apply Part.cons; (first | exact P0 | exact P1 | exact P2 | exact P3 | exact P4 | exact P5 | exact P6 | exact P7 | exact P8 | exact P9 | exact P10 | exact P11 | exact P12 | exact P13 | exact P14 | exact P15 | exact P16 | exact P17 | exact P18 | exact P19 | exact P20 | exact P21 | exact P22 | exact P23)) | (apply Part.flat; simp only [List.cons_append, List.nil_append]) | (apply Part.nilc))) ?_)
  rintro v post H' ⟨rfl, rfl⟩ hH
  try simp only [List.cons_append, List.nil_append] at hH
  subst hH
  refine SPL_y (y_assign rfl) rfl ?_
  refine SPL_nil ?_
  refine thenP_n ?_
  refine SP_ret ?_
  refine inBlockP_ret (thenP_ret (bodyP_ret (H' := [blk pb 159 [nv, mnv, mxv, stv, .slice (some ⟨bf, 0, none⟩) fs.length fc], blk bf 164 (la ++ rowM u (some ⟨bs, 0, none⟩) sc ca code.length cc ++ lb ++ sp), List.flatten [blk k 174 [.slice ta K.st.length tc, .slice oa1 (K.cs.length + 1) oc1], st, so1], blk bs 87 (codeV u.src ++ sps), cd]) (Res1 rfl rfl) (by repeat (first | exact Part.nil _ | (apply Part.cons; (first | exact P0 | exact P1 | exact P2 | exact P3 | exact P4 | exact P5 | exact P6 | exact P7 | exact P8 | exact P9 | exact P10 | exact P11 | exact P12 | exact P13 | exact P14 | exact P15 | exact P16 | exact P17 | exact P18 | exact P19 | exact P20 | exact P21 | exact P22 | exact P23)) | (apply Part.flat; simp only [List.cons_append, List.nil_append]) | (apply Part.nilc))) ?_))
  have e : oneM fs u code K i c = ({ K with cs := K.cs ++ [⟨c.op, c.imm, K.st.length, i, false⟩] }, code, 0) := by
    unfold oneM; rw [if_pos (by omega)]; unfold enterM; rw [if_neg (by omega)]
  rw [e]
  exact ⟨ca, cc, cd, _, rfl, rfl, isKm.intro rfl (by simp) hst (ctl1 hcs1), hcd⟩

set_option maxHeartbeats 4000000 in
theorem pm_one_blk2 (pb k bf : Nat) (nv mnv mxv stv : Value) (fc : Nat) (fs : List Fm) (u : Fm) (la lb sp : List Value) (sa : Option Addr) (sc : Nat) (ca : Option Addr) (cc : Nat) (code : List Flat) (sv cd : Seg) (K : Km) (s : Seg) (i : Nat) (c : Ins)
    (hi : i < u.src.length) (hci : u.src[i] = c) (hs : Arr 87 3 sa u.src.length sc (codeV u.src) sv) (hcd : Arr 181 4 ca code.length cc (code.flatMap flatV) cd) (hm : isKm k K s) (hK : KB K) (hL : LabOk K u.src)
    (hsl : u.src.length ≤ 1000) (htab : ∀ c, c ∈ u.src → c.tab.length ≤ 5) (hcl : code.length ≤ 100000) (hpl : u.params.length ≤ 100 ∧ u.results.length ≤ 100 ∧ u.locals.length ≤ 100)
    (hfs : ∀ (g : Nat) (f : Fm), fs[g]? = some f → (la ++ rowM u sa sc ca code.length cc ++ lb)[g * 5]? = some (S f.params) ∧ (la ++ rowM u sa sc ca code.length cc ++ lb)[g * 5 + 1]? = some (S f.results) ∧ f.params.length ≤ 100 ∧ f.results.length ≤ 100) (hfl : fs.length ≤ 1000) (hw : well c = true) (hop : c.op = 2) : Spec Tryz.prog 73 [.pointer (some ⟨pb, 0, none⟩), .pointer (some ⟨k, 0, none⟩), .pointer (some ⟨bf, la.length, none⟩), I i] [blk pb 159 [nv, mnv, mxv, stv, .slice (some ⟨bf, 0, none⟩) fs.length fc], blk bf 164 (la ++ rowM u sa sc ca code.length cc ++ lb ++ sp), s, sv, cd] (Ret fun v H => ∃ ca' cc' cd' s', v = I (oneM fs u code K i c).2.2 ∧ H = [blk pb 159 [nv, mnv, mxv, stv, .slice (some ⟨bf, 0, none⟩) fs.length fc], blk bf 164 (la ++ rowM u sa sc ca' (oneM fs u code K i c).2.1.length cc' ++ lb ++ sp), s', sv, cd'] ∧ isKm k (oneM fs u code K i c).1 s' ∧ Arr 181 4 ca' (oneM fs u code K i c).2.1.length cc' ((oneM fs u code K i c).2.1.flatMap flatV) cd') := by
  have hp := hK.pos
  have hz1 := hK.st
  have hz2 := hK.cs
  refine Spec_enter Tryz.func73 rfl Tryz.ntmps73 rfl ?_
  show SP _ _ _ _ _ [(0, _), (1, _), (2, _), (3, _)] _
  refine SP_seq ?_
  refine SP_region ?_
  refine SPL_y (y_assign rfl) rfl ?_
  refine SPL_nil ?_
  refine thenP_n ?_
  refine SP_seq ?_
  obtain ⟨bs, sps, rfl, hsc, hsps, rfl⟩ := hs.row (by omega)
  refine SP_region ?_
  refine SPL_y (y_move rfl) rfl ?_
  refine SPL_y (y_nil rfl) rfl ?_
  refine SPL_y (y_fa fld_164_3 rfl) rfl ?_
  refine SPL_y (y_load Tryz.isAgg34 rfl (by repeat (first | exact row_cell (q := 3) rfl | apply Cell.tail))) rfl ?_
  refine SPL_y (y_move rfl) rfl ?_
  refine SPL_y (y_ia Tryz.underlying34 Tryz.sizeOf87 rfl rfl (by omega)) rfl ?_
  refine SPL_y (y_loads Tryz.isAgg87 Tryz.sizeOf87 rfl rfl (by repeat (first | exact flat_cellsE insV_len (i := i) rfl hi hci | apply Cells.tail))) rfl ?_
  refine SPL_one rfl (SP1_alloc Tryz.zeroValue87 rfl rfl ?_)
  intro b9
  refine SPL_one rfl (SP1_storeAll Tryz.sizeOf87 rfl rfl rfl rfl rfl (by first | exact U0 | exact U1 | exact U2 | exact U3 | exact U4 | exact U5 | exact U6 | exact U7 | exact U8 | exact U9 | exact U10 | exact U11 | exact U12 | exact U13 | exact U14 | exact U15 | exact U16 | exact U17 | exact U18 | exact U19 | exact U20 | exact U21 | exact U22 | exact U23) (by rfl) ?_)
  refine SPL_y (y_assign rfl) rfl ?_
  refine SPL_nil ?_
  refine thenP_n ?_
  refine SP_seq ?_
  refine SP_region ?_
  refine SPL_y (y_fa fld_87_0 rfl) rfl ?_
  refine SPL_y (y_load Tryz.isAgg3 rfl (by repeat (first | exact Cell.head rfl | apply Cell.tail))) rfl ?_
  refine SPL_y (y_fa fld_87_1 rfl) rfl ?_
  refine SPL_y (y_load Tryz.isAgg3 rfl (by repeat (first | exact Cell.head rfl | apply Cell.tail))) rfl ?_
  refine SPL_y (y_build B181 rfl rfl (by simp only [fillL, List.foldl_cons, List.foldl_nil, List.set_cons_zero, List.set_cons_succ]; exact rfl)) rfl ?_
  refine SPL_one rfl (SP1_alloc Tryz.zeroValue181 rfl rfl ?_)
  intro b11
  refine SPL_one rfl (SP1_storeAll Tryz.sizeOf181 rfl rfl rfl rfl rfl (by first | exact U0 | exact U1 | exact U2 | exact U3 | exact U4 | exact U5 | exact U6 | exact U7 | exact U8 | exact U9 | exact U10 | exact U11 | exact U12 | exact U13 | exact U14 | exact U15 | exact U16 | exact U17 | exact U18 | exact U19 | exact U20 | exact U21 | exact U22 | exact U23) (by rfl) ?_)
  refine SPL_nil ?_
  refine thenP_n ?_
  refine SP_seq ?_
  refine SP_draw 999 [(0, 0), (1, 0), (2, 0), (4, 0), (5, 0), (6, 0), (3, 1), (7, 1), (8, 0), (9, 0)] mixed (by kernel_rfl) (fun _ _ _ _ _ h => h) (Part.refl _) ?_
  refine SPO_p rfl (y_move rfl) rfl ?_
  refine SPO_p rfl (y_nil rfl) rfl ?_
  refine SPO_p rfl (y_fa fld_164_0 rfl) rfl ?_
  refine SPO_p rfl (y_move rfl) rfl ?_
  refine SPO_p rfl (y_nil rfl) rfl ?_
  refine SPO_p rfl (y_fa fld_164_2 rfl) rfl ?_
  refine SPO_h rfl (y_load Tryz.isAgg9 rfl (by repeat (first | exact row_cell (q := 0) rfl | apply Cell.tail))) rfl ?_
  refine SPO_h rfl (y_load Tryz.isAgg9 rfl (by repeat (first | exact row_cell (q := 2) rfl | apply Cell.tail))) rfl ?_
  refine SPO_p rfl (y_cat rfl rfl (by first | omega | (simp; omega))) rfl ?_
  refine SPO_p rfl (y_assign rfl) rfl ?_
  refine SPO_nil ?_
  refine thenP_n ?_
  refine SP_seq ?_
  refine SP_seq ?_
  refine SP_region ?_
  refine SPL_y (y_fa fld_87_0 rfl) rfl ?_
  refine SPL_y (y_load Tryz.isAgg3 rfl (by repeat (first | exact Cell.head rfl | apply Cell.tail))) rfl ?_
  refine SPL_nil ?_
  refine thenP_n ?_
  refine SP_block ?_
  refine SP_seq ?_
  refine SP_seq ?_
  refine SP_region ?_
  refine SPL_y (y_eqlF rfl rfl (by omega)) rfl ?_
  refine SPL_y (y_assign rfl) rfl ?_
  refine SPL_nil ?_
  refine thenP_n ?_
  refine SP_cond_f rfl ?_
  refine SP_seq ?_
  refine SP_region ?_
  refine SPL_y (y_eqlT rfl rfl hop) rfl ?_
  refine SPL_y (y_assign rfl) rfl ?_
  refine SPL_nil ?_
  refine thenP_n ?_
  refine SP_cond_t rfl ?_
  refine SP_skip ?_
  refine thenP_n ?_
  refine SP_cond_t rfl ?_
  refine SP_seq ?_
  refine SP_seq ?_
  refine SP_region ?_
  refine SPL_y (y_fa fld_87_0 rfl) rfl ?_
  refine SPL_y (y_load Tryz.isAgg3 rfl (by repeat (first | exact Cell.head rfl | apply Cell.tail))) rfl ?_
  refine SPL_y (y_eqlF rfl rfl (by omega)) rfl ?_
  refine SPL_nil ?_
  refine thenP_n ?_
  refine SP_cond_f rfl ?_
  refine SP_skip ?_
  refine thenP_n ?_
  refine SP_seq ?_
  obtain ⟨ta, tc, oa, oc, st, so, rfl, hst, hop_⟩ := hm
  refine SP_openAt [blk k 174 [.slice ta K.st.length tc, .slice oa K.cs.length oc], st, so] (by first | exact P0 | exact P1 | exact P2 | exact P3 | exact P4 | exact P5 | exact P6 | exact P7 | exact P8 | exact P9 | exact P10 | exact P11 | exact P12 | exact P13 | exact P14 | exact P15 | exact P16 | exact P17 | exact P18 | exact P19 | exact P20 | exact P21 | exact P22 | exact P23) ?_
  simp only [List.cons_append, List.nil_append]
  refine SP_draw 17 [(0, 0), (1, 0), (2, 0), (3, 0), (5, 0), (7, 0), (9, 0), (10, 0), (11, 0), (14, 0), (4, 1), (6, 1), (8, 1), (12, 1), (13, 0), (15, 0), (16, 2), (17, 3), (18, 0), (19, 0), (20, 3)] mixed (by kernel_rfl) (fun _ _ _ _ _ h => h) (Part.refl _) ?_
  refine SPO_p rfl (y_move rfl) rfl ?_
  refine SPO_p rfl (y_move rfl) rfl ?_
  refine SPO_p rfl (y_nil rfl) rfl ?_
  refine SPO_p rfl (y_fa fld_174_1 rfl) rfl ?_
  refine SPO_p rfl (y_fa fld_87_0 rfl) rfl ?_
  refine SPO_p rfl (y_fa fld_87_1 rfl) rfl ?_
  refine SPO_p rfl (y_move rfl) rfl ?_
  refine SPO_p rfl (y_nil rfl) rfl ?_
  refine SPO_p rfl (y_fa fld_174_0 rfl) rfl ?_
  refine SPO_p rfl (y_move rfl) rfl ?_
  refine SPO_h rfl (y_load Tryz.isAgg172 rfl (by repeat (first | exact Cell.head rfl | apply Cell.tail))) rfl ?_
  refine SPO_h rfl (y_load Tryz.isAgg3 rfl (by repeat (first | exact Cell.head rfl | apply Cell.tail))) rfl ?_
  refine SPO_h rfl (y_load Tryz.isAgg3 rfl (by repeat (first | exact Cell.head rfl | apply Cell.tail))) rfl ?_
  refine SPO_h rfl (y_load Tryz.isAgg144 rfl (by repeat (first | exact Cell.head rfl | apply Cell.tail))) rfl ?_
  refine SPO_p rfl (y_len_l Tryz.underlying144 rfl) rfl ?_
  refine SPO_p rfl (y_build B171 rfl rfl (by simp only [fillL, List.foldl_cons, List.foldl_nil, List.set_cons_zero, List.set_cons_succ]; exact rfl)) rfl ?_
  refine SPO_a rfl rfl (SP1_slice1 el_172 rfl rfl rfl rfl rfl ?_)
  intro b119
  refine ⟨⟨_, (by repeat (first | exact Part.nil _ | (apply Part.cons; (first | exact P0 | exact P1 | exact P2 | exact P3 | exact P4 | exact P5 | exact P6 | exact P7 | exact P8 | exact P9 | exact P10 | exact P11 | exact P12 | exact P13 | exact P14 | exact P15 | exact P16 | exact P17 | exact P18 | exact P19 | exact P20 | exact P21 | exact P22 | exact P23)) | (apply Part.flat; simp only [List.cons_append, List.nil_append]) | (apply Part.nilc)))⟩, ?_⟩
  refine SPO_z (k := 0) rfl rfl (SP1_append el_172 (.inl Tryz.underlying172) rfl rfl hop_ (by first | exact P0 | exact P1 | exact P2 | exact P3 | exact P4 | exact P5 | exact P6 | exact P7 | exact P8 | exact P9 | exact P10 | exact P11 | exact P12 | exact P13 | exact P14 | exact P15 | exact P16 | exact P17 | exact P18 | exact P19 | exact P20 | exact P21 | exact P22 | exact P23) (Src.of (by repeat (first | exact Cells.all _ | exact Cells.head rfl | apply Cells.tail)) (by rfl)) (by rfl) (by omega) rfl ?_)
  intro oa1 oc1 so1 hcs1
  refine SPO_p rfl (y_nil rfl) rfl ?_
  refine SPO_p rfl (y_fa fld_174_1 rfl) rfl ?_
  refine SPO_z (k := 0) rfl rfl (SP1_store Tryz.sizeOf172 rfl rfl rfl (by first | exact U0 | exact U1 | exact U2 | exact U3 | exact U4 | exact U5 | exact U6 | exact U7 | exact U8 | exact U9 | exact U10 | exact U11 | exact U12 | exact U13 | exact U14 | exact U15 | exact U16 | exact U17 | exact U18 | exact U19 | exact U20 | exact U21 | exact U22 | exact U23) (by rfl) ?_)
  refine SPO_nil ?_
  refine thenP_n ?_
  refine SP_seq ?_
  refine SP_region ?_
  refine SPL_y (y_move rfl) rfl ?_
  refine SPL_one rfl (SP1_call (pm_typed _) Tryz.call95 rfl rfl (by repeat (first | exact Part.nil _ | (apply Part.cons; (first | exact P0 | exact P1 | exact P2 | exact P3 | exact P4 | exact P5 | exact P6 | exact P7 | exact P8 | exact P9 | exact P10 | exact P11 | exact P12 | exact P13 | exact P14 | exact P15 | exact P16 | exact P17 | exact P18 | exact P19 | exact P20 | exact P21 | exact P22 | exact P23)) | (apply Part.flat; simp only [List.cons_append, List.nil_append]) | (apply Part.nilc))) ?_)
  rintro v post H' ⟨rfl, rfl⟩ hH
  try simp only [List.cons_append, List.nil_append] at hH
  subst hH
  refine SPL_y (y_assign rfl) rfl ?_
  refine SPL_nil ?_
  refine thenP_n ?_
  refine SP_ret ?_
  refine inBlockP_ret (thenP_ret (bodyP_ret (H' := [blk pb 159 [nv, mnv, mxv, stv, .slice (some ⟨bf, 0, none⟩) fs.length fc], blk bf 164 (la ++ rowM u (some ⟨bs, 0, none⟩) sc ca code.length cc ++ lb ++ sp), List.flatten [blk k 174 [.slice ta K.st.length tc, .slice oa1 (K.cs.length + 1) oc1], st, so1], blk bs 87 (codeV u.src ++ sps), cd]) (Res1 rfl rfl) (by repeat (first | exact Part.nil _ | (apply Part.cons; (first | exact P0 | exact P1 | exact P2 | exact P3 | exact P4 | exact P5 | exact P6 | exact P7 | exact P8 | exact P9 | exact P10 | exact P11 | exact P12 | exact P13 | exact P14 | exact P15 | exact P16 | exact P17 | exact P18 | exact P19 | exact P20 | exact P21 | exact P22 | exact P23)) | (apply Part.flat; simp only [List.cons_append, List.nil_append]) | (apply Part.nilc))) ?_))
  have e : oneM fs u code K i c = ({ K with cs := K.cs ++ [⟨c.op, c.imm, K.st.length, i, false⟩] }, code, 0) := by
    unfold oneM; rw [if_pos (by omega)]; unfold enterM; rw [if_neg (by omega)]
  rw [e]
  exact ⟨ca, cc, cd, _, rfl, rfl, isKm.intro rfl (by simp) hst (ctl1 hcs1), hcd⟩

set_option maxHeartbeats 4000000 in
theorem pm_one_if (pb k bf : Nat) (nv mnv mxv stv : Value) (fc : Nat) (fs : List Fm) (u : Fm) (la lb sp : List Value) (sa : Option Addr) (sc : Nat) (ca : Option Addr) (cc : Nat) (code : List Flat) (sv cd : Seg) (K : Km) (s : Seg) (i : Nat) (c : Ins)
    (hi : i < u.src.length) (hci : u.src[i] = c) (hs : Arr 87 3 sa u.src.length sc (codeV u.src) sv) (hcd : Arr 181 4 ca code.length cc (code.flatMap flatV) cd) (hm : isKm k K s) (hK : KB K) (hL : LabOk K u.src)
    (hsl : u.src.length ≤ 1000) (htab : ∀ c, c ∈ u.src → c.tab.length ≤ 5) (hcl : code.length ≤ 100000) (hpl : u.params.length ≤ 100 ∧ u.results.length ≤ 100 ∧ u.locals.length ≤ 100)
    (hfs : ∀ (g : Nat) (f : Fm), fs[g]? = some f → (la ++ rowM u sa sc ca code.length cc ++ lb)[g * 5]? = some (S f.params) ∧ (la ++ rowM u sa sc ca code.length cc ++ lb)[g * 5 + 1]? = some (S f.results) ∧ f.params.length ≤ 100 ∧ f.results.length ≤ 100) (hfl : fs.length ≤ 1000) (hw : well c = true) (hop : c.op = 3) : Spec Tryz.prog 73 [.pointer (some ⟨pb, 0, none⟩), .pointer (some ⟨k, 0, none⟩), .pointer (some ⟨bf, la.length, none⟩), I i] [blk pb 159 [nv, mnv, mxv, stv, .slice (some ⟨bf, 0, none⟩) fs.length fc], blk bf 164 (la ++ rowM u sa sc ca code.length cc ++ lb ++ sp), s, sv, cd] (Ret fun v H => ∃ ca' cc' cd' s', v = I (oneM fs u code K i c).2.2 ∧ H = [blk pb 159 [nv, mnv, mxv, stv, .slice (some ⟨bf, 0, none⟩) fs.length fc], blk bf 164 (la ++ rowM u sa sc ca' (oneM fs u code K i c).2.1.length cc' ++ lb ++ sp), s', sv, cd'] ∧ isKm k (oneM fs u code K i c).1 s' ∧ Arr 181 4 ca' (oneM fs u code K i c).2.1.length cc' ((oneM fs u code K i c).2.1.flatMap flatV) cd') := by
  have hp := hK.pos
  have hz1 := hK.st
  have hz2 := hK.cs
  have hrg := ends_rng hi
  obtain ⟨en, hen⟩ : ∃ en : Nat, (if 0 ≤ (ends u.src i).1 then (ends u.src i).1 + 1 else (ends u.src i).2) = (en : Int) := ⟨(if 0 ≤ (ends u.src i).1 then (ends u.src i).1 + 1 else (ends u.src i).2).toNat, by split <;> omega⟩
  have hle : en ≤ u.src.length := by split at hen <;> omega
  refine Spec_enter Tryz.func73 rfl Tryz.ntmps73 rfl ?_
  show SP _ _ _ _ _ [(0, _), (1, _), (2, _), (3, _)] _
  refine SP_seq ?_
  refine SP_region ?_
  refine SPL_y (y_assign rfl) rfl ?_
  refine SPL_nil ?_
  refine thenP_n ?_
  refine SP_seq ?_
  obtain ⟨bs, sps, rfl, hsc, hsps, rfl⟩ := hs.row (by omega)
  refine SP_region ?_
  refine SPL_y (y_move rfl) rfl ?_
  refine SPL_y (y_nil rfl) rfl ?_
  refine SPL_y (y_fa fld_164_3 rfl) rfl ?_
  refine SPL_y (y_load Tryz.isAgg34 rfl (by repeat (first | exact row_cell (q := 3) rfl | apply Cell.tail))) rfl ?_
  refine SPL_y (y_move rfl) rfl ?_
  refine SPL_y (y_ia Tryz.underlying34 Tryz.sizeOf87 rfl rfl (by omega)) rfl ?_
  refine SPL_y (y_loads Tryz.isAgg87 Tryz.sizeOf87 rfl rfl (by repeat (first | exact flat_cellsE insV_len (i := i) rfl hi hci | apply Cells.tail))) rfl ?_
  refine SPL_one rfl (SP1_alloc Tryz.zeroValue87 rfl rfl ?_)
  intro b9
  refine SPL_one rfl (SP1_storeAll Tryz.sizeOf87 rfl rfl rfl rfl rfl (by first | exact U0 | exact U1 | exact U2 | exact U3 | exact U4 | exact U5 | exact U6 | exact U7 | exact U8 | exact U9 | exact U10 | exact U11 | exact U12 | exact U13 | exact U14 | exact U15 | exact U16 | exact U17 | exact U18 | exact U19 | exact U20 | exact U21 | exact U22 | exact U23) (by rfl) ?_)
  refine SPL_y (y_assign rfl) rfl ?_
  refine SPL_nil ?_
  refine thenP_n ?_
  refine SP_seq ?_
  refine SP_region ?_
  refine SPL_y (y_fa fld_87_0 rfl) rfl ?_
  refine SPL_y (y_load Tryz.isAgg3 rfl (by repeat (first | exact Cell.head rfl | apply Cell.tail))) rfl ?_
  refine SPL_y (y_fa fld_87_1 rfl) rfl ?_
  refine SPL_y (y_load Tryz.isAgg3 rfl (by repeat (first | exact Cell.head rfl | apply Cell.tail))) rfl ?_
  refine SPL_y (y_build B181 rfl rfl (by simp only [fillL, List.foldl_cons, List.foldl_nil, List.set_cons_zero, List.set_cons_succ]; exact rfl)) rfl ?_
  refine SPL_one rfl (SP1_alloc Tryz.zeroValue181 rfl rfl ?_)
  intro b11
  refine SPL_one rfl (SP1_storeAll Tryz.sizeOf181 rfl rfl rfl rfl rfl (by first | exact U0 | exact U1 | exact U2 | exact U3 | exact U4 | exact U5 | exact U6 | exact U7 | exact U8 | exact U9 | exact U10 | exact U11 | exact U12 | exact U13 | exact U14 | exact U15 | exact U16 | exact U17 | exact U18 | exact U19 | exact U20 | exact U21 | exact U22 | exact U23) (by rfl) ?_)
  refine SPL_nil ?_
  refine thenP_n ?_
  refine SP_seq ?_
  refine SP_draw 999 [(0, 0), (1, 0), (2, 0), (4, 0), (5, 0), (6, 0), (3, 1), (7, 1), (8, 0), (9, 0)] mixed (by kernel_rfl) (fun _ _ _ _ _ h => h) (Part.refl _) ?_
  refine SPO_p rfl (y_move rfl) rfl ?_
  refine SPO_p rfl (y_nil rfl) rfl ?_
  refine SPO_p rfl (y_fa fld_164_0 rfl) rfl ?_
  refine SPO_p rfl (y_move rfl) rfl ?_
  refine SPO_p rfl (y_nil rfl) rfl ?_
  refine SPO_p rfl (y_fa fld_164_2 rfl) rfl ?_
  refine SPO_h rfl (y_load Tryz.isAgg9 rfl (by repeat (first | exact row_cell (q := 0) rfl | apply Cell.tail))) rfl ?_
  refine SPO_h rfl (y_load Tryz.isAgg9 rfl (by repeat (first | exact row_cell (q := 2) rfl | apply Cell.tail))) rfl ?_
  refine SPO_p rfl (y_cat rfl rfl (by first | omega | (simp; omega))) rfl ?_
  refine SPO_p rfl (y_assign rfl) rfl ?_
  refine SPO_nil ?_
  refine thenP_n ?_
  refine SP_seq ?_
  refine SP_seq ?_
  refine SP_region ?_
  refine SPL_y (y_fa fld_87_0 rfl) rfl ?_
  refine SPL_y (y_load Tryz.isAgg3 rfl (by repeat (first | exact Cell.head rfl | apply Cell.tail))) rfl ?_
  refine SPL_nil ?_
  refine thenP_n ?_
  refine SP_block ?_
  refine SP_seq ?_
  refine SP_seq ?_
  refine SP_region ?_
  refine SPL_y (y_eqlF rfl rfl (by omega)) rfl ?_
  refine SPL_y (y_assign rfl) rfl ?_
  refine SPL_nil ?_
  refine thenP_n ?_
  refine SP_cond_f rfl ?_
  refine SP_seq ?_
  refine SP_region ?_
  refine SPL_y (y_eqlF rfl rfl (by omega)) rfl ?_
  refine SPL_y (y_assign rfl) rfl ?_
  refine SPL_nil ?_
  refine thenP_n ?_
  refine SP_cond_f rfl ?_
  refine SP_region ?_
  refine SPL_y (y_eqlT rfl rfl hop) rfl ?_
  refine SPL_y (y_assign rfl) rfl ?_
  refine SPL_nil ?_
  refine thenP_n ?_
  refine SP_cond_t rfl ?_
  refine SP_seq ?_
  refine SP_seq ?_
  refine SP_region ?_
  refine SPL_y (y_fa fld_87_0 rfl) rfl ?_
  refine SPL_y (y_load Tryz.isAgg3 rfl (by repeat (first | exact Cell.head rfl | apply Cell.tail))) rfl ?_
  refine SPL_y (y_eqlT rfl rfl hop) rfl ?_
  refine SPL_nil ?_
  refine thenP_n ?_
  refine SP_cond_t rfl ?_
  refine SP_seq ?_
  refine SP_region ?_
  refine SPL_y (y_move rfl) rfl ?_
  refine SPL_one rfl (SP1_call (pm_pops k K s [105] hm hK (by decide)) Tryz.call92 rfl rfl (by repeat (first | exact Part.nil _ | (apply Part.cons; (first | exact P0 | exact P1 | exact P2 | exact P3 | exact P4 | exact P5 | exact P6 | exact P7 | exact P8 | exact P9 | exact P10 | exact P11 | exact P12 | exact P13 | exact P14 | exact P15 | exact P16 | exact P17 | exact P18 | exact P19 | exact P20 | exact P21 | exact P22 | exact P23)) | (apply Part.flat; simp only [List.cons_append, List.nil_append]) | (apply Part.nilc))) ?_)
  rintro v post H' ⟨s1, rfl, rfl, hm1⟩ hH
  try simp only [List.cons_append, List.nil_append] at hH
  subst hH
  refine SPL_y (y_assign rfl) rfl ?_
  refine SPL_nil ?_
  refine thenP_n ?_
  refine SP_seq ?_
  refine SP_region ?_
  refine SPL_y (y_move rfl) rfl ?_
  refine SPL_y (y_nil rfl) rfl ?_
  refine SPL_y (y_fa fld_164_3 rfl) rfl ?_
  refine SPL_y (y_load Tryz.isAgg34 rfl (by repeat (first | exact row_cell (q := 3) rfl | apply Cell.tail))) rfl ?_
  refine SPL_y (y_move rfl) rfl ?_
  refine SPL_one rfl (SP1_call (pm_Ends (some ⟨bs, 0, none⟩) sc u.src _ hs i hi (by omega)) Tryz.call93 rfl rfl (by repeat (first | exact Part.nil _ | (apply Part.cons; (first | exact P0 | exact P1 | exact P2 | exact P3 | exact P4 | exact P5 | exact P6 | exact P7 | exact P8 | exact P9 | exact P10 | exact P11 | exact P12 | exact P13 | exact P14 | exact P15 | exact P16 | exact P17 | exact P18 | exact P19 | exact P20 | exact P21 | exact P22 | exact P23)) | (apply Part.flat; simp only [List.cons_append, List.nil_append]) | (apply Part.nilc))) ?_)
  rintro v post H' ⟨rfl, rfl⟩ hH
  try simp only [List.cons_append, List.nil_append] at hH
  subst hH
  refine SPL_y (y_move rfl) rfl ?_
  refine SPL_y (y_ext rfl rfl) rfl ?_
  refine SPL_y (y_ext rfl rfl) rfl ?_
  refine SPL_y (y_assign rfl) rfl ?_
  refine SPL_y (y_assign rfl) rfl ?_
  refine SPL_nil ?_
  refine thenP_n ?_
  refine SP_seq ?_
  refine SP_seq ?_
  refine SP_region ?_
  refine SPL_y (y_move rfl) rfl ?_
  refine SPL_ifn (y_geq rfl rfl) rfl ?_ ?_
  · intro h13_1
    refine SPL_nil ?_
    refine thenP_n ?_
    refine SP_cond_f rfl ?_
    refine SP_skip ?_
    refine thenP_n ?_
    refine SP_seq ?_
    have e15 : (ends u.src i).2 = (en : Int) := by rw [← hen, if_neg h13_1]
    rw [e15]
    refine SP_region ?_
    refine SPL_y (y_move rfl) rfl ?_
    refine SPL_y (y_nil rfl) rfl ?_
    refine SPL_y (y_fa fld_164_3 rfl) rfl ?_
    refine SPL_y (y_load Tryz.isAgg34 rfl (by repeat (first | exact row_cell (q := 3) rfl | apply Cell.tail))) rfl ?_
    refine SPL_y (y_move rfl) rfl ?_
    refine SPL_one rfl (SP1_call (pm_Pos (some ⟨bs, 0, none⟩) sc u.src _ hs en hle hsl htab) Tryz.call94 rfl rfl (by repeat (first | exact Part.nil _ | (apply Part.cons; (first | exact P0 | exact P1 | exact P2 | exact P3 | exact P4 | exact P5 | exact P6 | exact P7 | exact P8 | exact P9 | exact P10 | exact P11 | exact P12 | exact P13 | exact P14 | exact P15 | exact P16 | exact P17 | exact P18 | exact P19 | exact P20 | exact P21 | exact P22 | exact P23)) | (apply Part.flat; simp only [List.cons_append, List.nil_append]) | (apply Part.nilc))) ?_)
    rintro v post H' ⟨rfl, rfl⟩ hH
    try simp only [List.cons_append, List.nil_append] at hH
    subst hH
    refine SPL_y (y_fa fld_181_1 rfl) rfl ?_
    refine SPL_one rfl (SP1_store Tryz.sizeOf3 rfl rfl rfl (by first | exact U0 | exact U1 | exact U2 | exact U3 | exact U4 | exact U5 | exact U6 | exact U7 | exact U8 | exact U9 | exact U10 | exact U11 | exact U12 | exact U13 | exact U14 | exact U15 | exact U16 | exact U17 | exact U18 | exact U19 | exact U20 | exact U21 | exact U22 | exact U23) (by rfl) ?_)
    refine SPL_nil ?_
    refine thenP_n ?_
    refine SP_draw 7 [(0, 0), (1, 0), (2, 0), (3, 0), (4, 1), (5, 1), (6, 2), (7, 3), (8, 0), (9, 0), (10, 3)] mixed (by kernel_rfl) (fun _ _ _ _ _ h => h) (Part.refl _) ?_
    refine SPO_p rfl (y_move rfl) rfl ?_
    refine SPO_p rfl (y_move rfl) rfl ?_
    refine SPO_p rfl (y_nil rfl) rfl ?_
    refine SPO_p rfl (y_fa fld_164_4 rfl) rfl ?_
    refine SPO_h rfl (y_load Tryz.isAgg106 rfl (by repeat (first | exact row_cell (q := 4) rfl | apply Cell.tail))) rfl ?_
    refine SPO_h rfl (y_loads Tryz.isAgg181 Tryz.sizeOf181 rfl rfl (by repeat (first | exact Cells.all _ | exact Cells.head rfl | apply Cells.tail))) rfl ?_
    refine SPO_a rfl rfl (SP1_slice1 el_106 rfl rfl rfl rfl rfl ?_)
    intro b99
    refine ⟨⟨_, (by repeat (first | exact Part.nil _ | (apply Part.cons; (first | exact P0 | exact P1 | exact P2 | exact P3 | exact P4 | exact P5 | exact P6 | exact P7 | exact P8 | exact P9 | exact P10 | exact P11 | exact P12 | exact P13 | exact P14 | exact P15 | exact P16 | exact P17 | exact P18 | exact P19 | exact P20 | exact P21 | exact P22 | exact P23)) | (apply Part.flat; simp only [List.cons_append, List.nil_append]) | (apply Part.nilc)))⟩, ?_⟩
    refine SPO_z (k := 0) rfl rfl (SP1_append el_106 (.inl Tryz.underlying106) rfl rfl hcd (by first | exact P0 | exact P1 | exact P2 | exact P3 | exact P4 | exact P5 | exact P6 | exact P7 | exact P8 | exact P9 | exact P10 | exact P11 | exact P12 | exact P13 | exact P14 | exact P15 | exact P16 | exact P17 | exact P18 | exact P19 | exact P20 | exact P21 | exact P22 | exact P23) (Src.of (by repeat (first | exact Cells.all _ | exact Cells.head rfl | apply Cells.tail)) (by rfl)) (by rfl) (by omega) rfl ?_)
    intro ca1 cc1 cd1 hcd1
    refine SPO_p rfl (y_nil rfl) rfl ?_
    refine SPO_p rfl (y_fa fld_164_4 rfl) rfl ?_
    refine SPO_z (k := 0) rfl rfl (SP1_store Tryz.sizeOf106 rfl rfl rfl (by first | exact U0 | exact U1 | exact U2 | exact U3 | exact U4 | exact U5 | exact U6 | exact U7 | exact U8 | exact U9 | exact U10 | exact U11 | exact U12 | exact U13 | exact U14 | exact U15 | exact U16 | exact U17 | exact U18 | exact U19 | exact U20 | exact U21 | exact U22 | exact U23) (row_ble (r := rowM u (some ⟨bs, 0, none⟩) sc ca code.length cc) (q := 4) (show 4 < 5 by decide)) ?_)
    rw [row_set (r := rowM u (some ⟨bs, 0, none⟩) sc ca code.length cc) (q := 4) (show 4 < 5 by decide)]
    refine SPO_nil ?_
    refine thenP_n ?_
    refine SP_seq ?_
    obtain ⟨K1, hK1⟩ : ∃ x, (popsM K [105]).1 = x := ⟨_, rfl⟩
    obtain ⟨b1, hb1⟩ : ∃ x, (popsM K [105]).2 = x := ⟨_, rfl⟩
    have hz3 := (hK.pops [105]).cs
    have hz4 := (hK.pops [105]).st
    rw [hb1]
    rw [hK1] at hm1 hz3 hz4
    obtain ⟨ta, tc, oa, oc, st, so, rfl, hst, hop_⟩ := hm1
    refine SP_openAt [blk k 174 [.slice ta K1.st.length tc, .slice oa K1.cs.length oc], st, so] (by first | exact P0 | exact P1 | exact P2 | exact P3 | exact P4 | exact P5 | exact P6 | exact P7 | exact P8 | exact P9 | exact P10 | exact P11 | exact P12 | exact P13 | exact P14 | exact P15 | exact P16 | exact P17 | exact P18 | exact P19 | exact P20 | exact P21 | exact P22 | exact P23) ?_
    simp only [List.cons_append, List.nil_append]
    refine SP_draw 17 [(0, 0), (1, 0), (2, 0), (3, 0), (5, 0), (7, 0), (9, 0), (10, 0), (11, 0), (14, 0), (4, 1), (6, 1), (8, 1), (12, 1), (13, 0), (15, 0), (16, 2), (17, 3), (18, 0), (19, 0), (20, 3)] mixed (by kernel_rfl) (fun _ _ _ _ _ h => h) (Part.refl _) ?_
    refine SPO_p rfl (y_move rfl) rfl ?_
    refine SPO_p rfl (y_move rfl) rfl ?_
    refine SPO_p rfl (y_nil rfl) rfl ?_
    refine SPO_p rfl (y_fa fld_174_1 rfl) rfl ?_
    refine SPO_p rfl (y_fa fld_87_0 rfl) rfl ?_
    refine SPO_p rfl (y_fa fld_87_1 rfl) rfl ?_
    refine SPO_p rfl (y_move rfl) rfl ?_
    refine SPO_p rfl (y_nil rfl) rfl ?_
    refine SPO_p rfl (y_fa fld_174_0 rfl) rfl ?_
    refine SPO_p rfl (y_move rfl) rfl ?_
    refine SPO_h rfl (y_load Tryz.isAgg172 rfl (by repeat (first | exact Cell.head rfl | apply Cell.tail))) rfl ?_
    refine SPO_h rfl (y_load Tryz.isAgg3 rfl (by repeat (first | exact Cell.head rfl | apply Cell.tail))) rfl ?_
    refine SPO_h rfl (y_load Tryz.isAgg3 rfl (by repeat (first | exact Cell.head rfl | apply Cell.tail))) rfl ?_
    refine SPO_h rfl (y_load Tryz.isAgg144 rfl (by repeat (first | exact Cell.head rfl | apply Cell.tail))) rfl ?_
    refine SPO_p rfl (y_len_l Tryz.underlying144 rfl) rfl ?_
    refine SPO_p rfl (y_build B171 rfl rfl (by simp only [fillL, List.foldl_cons, List.foldl_nil, List.set_cons_zero, List.set_cons_succ]; exact rfl)) rfl ?_
    refine SPO_a rfl rfl (SP1_slice1 el_172 rfl rfl rfl rfl rfl ?_)
    intro b119
    refine ⟨⟨_, (by repeat (first | exact Part.nil _ | (apply Part.cons; (first | exact P0 | exact P1 | exact P2 | exact P3 | exact P4 | exact P5 | exact P6 | exact P7 | exact P8 | exact P9 | exact P10 | exact P11 | exact P12 | exact P13 | exact P14 | exact P15 | exact P16 | exact P17 | exact P18 | exact P19 | exact P20 | exact P21 | exact P22 | exact P23)) | (apply Part.flat; simp only [List.cons_append, List.nil_append]) | (apply Part.nilc)))⟩, ?_⟩
    refine SPO_z (k := 0) rfl rfl (SP1_append el_172 (.inl Tryz.underlying172) rfl rfl hop_ (by first | exact P0 | exact P1 | exact P2 | exact P3 | exact P4 | exact P5 | exact P6 | exact P7 | exact P8 | exact P9 | exact P10 | exact P11 | exact P12 | exact P13 | exact P14 | exact P15 | exact P16 | exact P17 | exact P18 | exact P19 | exact P20 | exact P21 | exact P22 | exact P23) (Src.of (by repeat (first | exact Cells.all _ | exact Cells.head rfl | apply Cells.tail)) (by rfl)) (by rfl) (by omega) rfl ?_)
    intro oa1 oc1 so1 hcs1
    refine SPO_p rfl (y_nil rfl) rfl ?_
    refine SPO_p rfl (y_fa fld_174_1 rfl) rfl ?_
    refine SPO_z (k := 0) rfl rfl (SP1_store Tryz.sizeOf172 rfl rfl rfl (by first | exact U0 | exact U1 | exact U2 | exact U3 | exact U4 | exact U5 | exact U6 | exact U7 | exact U8 | exact U9 | exact U10 | exact U11 | exact U12 | exact U13 | exact U14 | exact U15 | exact U16 | exact U17 | exact U18 | exact U19 | exact U20 | exact U21 | exact U22 | exact U23) (by rfl) ?_)
    refine SPO_nil ?_
    refine thenP_n ?_
    refine SP_seq ?_
    refine SP_region ?_
    refine SPL_y (y_move rfl) rfl ?_
    refine SPL_one rfl (SP1_call (pm_typed _) Tryz.call95 rfl rfl (by repeat (first | exact Part.nil _ | (apply Part.cons; (first | exact P0 | exact P1 | exact P2 | exact P3 | exact P4 | exact P5 | exact P6 | exact P7 | exact P8 | exact P9 | exact P10 | exact P11 | exact P12 | exact P13 | exact P14 | exact P15 | exact P16 | exact P17 | exact P18 | exact P19 | exact P20 | exact P21 | exact P22 | exact P23)) | (apply Part.flat; simp only [List.cons_append, List.nil_append]) | (apply Part.nilc))) ?_)
    rintro v post H' ⟨rfl, rfl⟩ hH
    try simp only [List.cons_append, List.nil_append] at hH
    subst hH
    refine SPL_y (y_assign rfl) rfl ?_
    refine SPL_nil ?_
    refine thenP_n ?_
    refine SP_ret ?_
    refine inBlockP_ret (thenP_ret (bodyP_ret (H' := [blk pb 159 [nv, mnv, mxv, stv, .slice (some ⟨bf, 0, none⟩) fs.length fc], blk bf 164 (la ++ rowM u (some ⟨bs, 0, none⟩) sc ca1 (code.length + 1) cc1 ++ lb ++ sp), List.flatten [blk k 174 [.slice ta K1.st.length tc, .slice oa1 (K1.cs.length + 1) oc1], st, so1], blk bs 87 (codeV u.src ++ sps), cd1]) (Res1 rfl rfl) (by repeat (first | exact Part.nil _ | (apply Part.cons; (first | exact P0 | exact P1 | exact P2 | exact P3 | exact P4 | exact P5 | exact P6 | exact P7 | exact P8 | exact P9 | exact P10 | exact P11 | exact P12 | exact P13 | exact P14 | exact P15 | exact P16 | exact P17 | exact P18 | exact P19 | exact P20 | exact P21 | exact P22 | exact P23)) | (apply Part.flat; simp only [List.cons_append, List.nil_append]) | (apply Part.nilc))) ?_))
    have e : oneM fs u code K i c = ({ K1 with cs := K1.cs ++ [⟨c.op, c.imm, K1.st.length, i, false⟩] }, code ++ [⟨c.op, (posOf u.src en : Nat), 0, 0⟩], typedM b1) := by
      unfold oneM; rw [if_pos (by omega)]; unfold enterM; rw [if_pos hop, hK1, hb1, hen, hop]; rfl
    rw [e]
    refine ⟨ca1, cc1, cd1, _, rfl, ?_, isKm.intro rfl (by simp) hst (ctl1 hcs1), ?_⟩
    · simp
    · exact snocF hcd1
  intro h13_1
  refine SPL_nil ?_
  refine thenP_n ?_
  refine SP_cond_t rfl ?_
  refine SP_region ?_
  refine SPL_y (y_move rfl) rfl ?_
  refine SPL_y (y_add rfl rfl (by omega)) rfl ?_
  refine SPL_y (y_assign rfl) rfl ?_
  refine SPL_nil ?_
  refine thenP_n ?_
  refine SP_seq ?_
  have e15 : (ends u.src i).1 + 1 = (en : Int) := by rw [← hen, if_pos h13_1]
  rw [e15]
  refine SP_region ?_
  refine SPL_y (y_move rfl) rfl ?_
  refine SPL_y (y_nil rfl) rfl ?_
  refine SPL_y (y_fa fld_164_3 rfl) rfl ?_
  refine SPL_y (y_load Tryz.isAgg34 rfl (by repeat (first | exact row_cell (q := 3) rfl | apply Cell.tail))) rfl ?_
  refine SPL_y (y_move rfl) rfl ?_
  refine SPL_one rfl (SP1_call (pm_Pos (some ⟨bs, 0, none⟩) sc u.src _ hs en hle hsl htab) Tryz.call94 rfl rfl (by repeat (first | exact Part.nil _ | (apply Part.cons; (first | exact P0 | exact P1 | exact P2 | exact P3 | exact P4 | exact P5 | exact P6 | exact P7 | exact P8 | exact P9 | exact P10 | exact P11 | exact P12 | exact P13 | exact P14 | exact P15 | exact P16 | exact P17 | exact P18 | exact P19 | exact P20 | exact P21 | exact P22 | exact P23)) | (apply Part.flat; simp only [List.cons_append, List.nil_append]) | (apply Part.nilc))) ?_)
  rintro v post H' ⟨rfl, rfl⟩ hH
  try simp only [List.cons_append, List.nil_append] at hH
  subst hH
  refine SPL_y (y_fa fld_181_1 rfl) rfl ?_
  refine SPL_one rfl (SP1_store Tryz.sizeOf3 rfl rfl rfl (by first | exact U0 | exact U1 | exact U2 | exact U3 | exact U4 | exact U5 | exact U6 | exact U7 | exact U8 | exact U9 | exact U10 | exact U11 | exact U12 | exact U13 | exact U14 | exact U15 | exact U16 | exact U17 | exact U18 | exact U19 | exact U20 | exact U21 | exact U22 | exact U23) (by rfl) ?_)
  refine SPL_nil ?_
  refine thenP_n ?_
  refine SP_draw 7 [(0, 0), (1, 0), (2, 0), (3, 0), (4, 1), (5, 1), (6, 2), (7, 3), (8, 0), (9, 0), (10, 3)] mixed (by kernel_rfl) (fun _ _ _ _ _ h => h) (Part.refl _) ?_
  refine SPO_p rfl (y_move rfl) rfl ?_
  refine SPO_p rfl (y_move rfl) rfl ?_
  refine SPO_p rfl (y_nil rfl) rfl ?_
  refine SPO_p rfl (y_fa fld_164_4 rfl) rfl ?_
  refine SPO_h rfl (y_load Tryz.isAgg106 rfl (by repeat (first | exact row_cell (q := 4) rfl | apply Cell.tail))) rfl ?_
  refine SPO_h rfl (y_loads Tryz.isAgg181 Tryz.sizeOf181 rfl rfl (by repeat (first | exact Cells.all _ | exact Cells.head rfl | apply Cells.tail))) rfl ?_
  refine SPO_a rfl rfl (SP1_slice1 el_106 rfl rfl rfl rfl rfl ?_)
  intro b99
  refine ⟨⟨_, (by repeat (first | exact Part.nil _ | (apply Part.cons; (first | exact P0 | exact P1 | exact P2 | exact P3 | exact P4 | exact P5 | exact P6 | exact P7 | exact P8 | exact P9 | exact P10 | exact P11 | exact P12 | exact P13 | exact P14 | exact P15 | exact P16 | exact P17 | exact P18 | exact P19 | exact P20 | exact P21 | exact P22 | exact P23)) | (apply Part.flat; simp only [List.cons_append, List.nil_append]) | (apply Part.nilc)))⟩, ?_⟩
  refine SPO_z (k := 0) rfl rfl (SP1_append el_106 (.inl Tryz.underlying106) rfl rfl hcd (by first | exact P0 | exact P1 | exact P2 | exact P3 | exact P4 | exact P5 | exact P6 | exact P7 | exact P8 | exact P9 | exact P10 | exact P11 | exact P12 | exact P13 | exact P14 | exact P15 | exact P16 | exact P17 | exact P18 | exact P19 | exact P20 | exact P21 | exact P22 | exact P23) (Src.of (by repeat (first | exact Cells.all _ | exact Cells.head rfl | apply Cells.tail)) (by rfl)) (by rfl) (by omega) rfl ?_)
  intro ca1 cc1 cd1 hcd1
  refine SPO_p rfl (y_nil rfl) rfl ?_
  refine SPO_p rfl (y_fa fld_164_4 rfl) rfl ?_
  refine SPO_z (k := 0) rfl rfl (SP1_store Tryz.sizeOf106 rfl rfl rfl (by first | exact U0 | exact U1 | exact U2 | exact U3 | exact U4 | exact U5 | exact U6 | exact U7 | exact U8 | exact U9 | exact U10 | exact U11 | exact U12 | exact U13 | exact U14 | exact U15 | exact U16 | exact U17 | exact U18 | exact U19 | exact U20 | exact U21 | exact U22 | exact U23) (row_ble (r := rowM u (some ⟨bs, 0, none⟩) sc ca code.length cc) (q := 4) (show 4 < 5 by decide)) ?_)
  rw [row_set (r := rowM u (some ⟨bs, 0, none⟩) sc ca code.length cc) (q := 4) (show 4 < 5 by decide)]
  refine SPO_nil ?_
  refine thenP_n ?_
  refine SP_seq ?_
  obtain ⟨K1, hK1⟩ : ∃ x, (popsM K [105]).1 = x := ⟨_, rfl⟩
  obtain ⟨b1, hb1⟩ : ∃ x, (popsM K [105]).2 = x := ⟨_, rfl⟩
  have hz3 := (hK.pops [105]).cs
  have hz4 := (hK.pops [105]).st
  rw [hb1]
  rw [hK1] at hm1 hz3 hz4
  obtain ⟨ta, tc, oa, oc, st, so, rfl, hst, hop_⟩ := hm1
  refine SP_openAt [blk k 174 [.slice ta K1.st.length tc, .slice oa K1.cs.length oc], st, so] (by first | exact P0 | exact P1 | exact P2 | exact P3 | exact P4 | exact P5 | exact P6 | exact P7 | exact P8 | exact P9 | exact P10 | exact P11 | exact P12 | exact P13 | exact P14 | exact P15 | exact P16 | exact P17 | exact P18 | exact P19 | exact P20 | exact P21 | exact P22 | exact P23) ?_
  simp only [List.cons_append, List.nil_append]
  refine SP_draw 17 [(0, 0), (1, 0), (2, 0), (3, 0), (5, 0), (7, 0), (9, 0), (10, 0), (11, 0), (14, 0), (4, 1), (6, 1), (8, 1), (12, 1), (13, 0), (15, 0), (16, 2), (17, 3), (18, 0), (19, 0), (20, 3)] mixed (by kernel_rfl) (fun _ _ _ _ _ h => h) (Part.refl _) ?_
  refine SPO_p rfl (y_move rfl) rfl ?_
  refine SPO_p rfl (y_move rfl) rfl ?_
  refine SPO_p rfl (y_nil rfl) rfl ?_
  refine SPO_p rfl (y_fa fld_174_1 rfl) rfl ?_
  refine SPO_p rfl (y_fa fld_87_0 rfl) rfl ?_
  refine SPO_p rfl (y_fa fld_87_1 rfl) rfl ?_
  refine SPO_p rfl (y_move rfl) rfl ?_
  refine SPO_p rfl (y_nil rfl) rfl ?_
  refine SPO_p rfl (y_fa fld_174_0 rfl) rfl ?_
  refine SPO_p rfl (y_move rfl) rfl ?_
  refine SPO_h rfl (y_load Tryz.isAgg172 rfl (by repeat (first | exact Cell.head rfl | apply Cell.tail))) rfl ?_
  refine SPO_h rfl (y_load Tryz.isAgg3 rfl (by repeat (first | exact Cell.head rfl | apply Cell.tail))) rfl ?_
  refine SPO_h rfl (y_load Tryz.isAgg3 rfl (by repeat (first | exact Cell.head rfl | apply Cell.tail))) rfl ?_
  refine SPO_h rfl (y_load Tryz.isAgg144 rfl (by repeat (first | exact Cell.head rfl | apply Cell.tail))) rfl ?_
  refine SPO_p rfl (y_len_l Tryz.underlying144 rfl) rfl ?_
  refine SPO_p rfl (y_build B171 rfl rfl (by simp only [fillL, List.foldl_cons, List.foldl_nil, List.set_cons_zero, List.set_cons_succ]; exact rfl)) rfl ?_
  refine SPO_a rfl rfl (SP1_slice1 el_172 rfl rfl rfl rfl rfl ?_)
  intro b119
  refine ⟨⟨_, (by repeat (first | exact Part.nil _ | (apply Part.cons; (first | exact P0 | exact P1 | exact P2 | exact P3 | exact P4 | exact P5 | exact P6 | exact P7 | exact P8 | exact P9 | exact P10 | exact P11 | exact P12 | exact P13 | exact P14 | exact P15 | exact P16 | exact P17 | exact P18 | exact P19 | exact P20 | exact P21 | exact P22 | exact P23)) | (apply Part.flat; simp only [List.cons_append, List.nil_append]) | (apply Part.nilc)))⟩, ?_⟩
  refine SPO_z (k := 0) rfl rfl (SP1_append el_172 (.inl Tryz.underlying172) rfl rfl hop_ (by first | exact P0 | exact P1 | exact P2 | exact P3 | exact P4 | exact P5 | exact P6 | exact P7 | exact P8 | exact P9 | exact P10 | exact P11 | exact P12 | exact P13 | exact P14 | exact P15 | exact P16 | exact P17 | exact P18 | exact P19 | exact P20 | exact P21 | exact P22 | exact P23) (Src.of (by repeat (first | exact Cells.all _ | exact Cells.head rfl | apply Cells.tail)) (by rfl)) (by rfl) (by omega) rfl ?_)
  intro oa1 oc1 so1 hcs1
  refine SPO_p rfl (y_nil rfl) rfl ?_
  refine SPO_p rfl (y_fa fld_174_1 rfl) rfl ?_
  refine SPO_z (k := 0) rfl rfl (SP1_store Tryz.sizeOf172 rfl rfl rfl (by first | exact U0 | exact U1 | exact U2 | exact U3 | exact U4 | exact U5 | exact U6 | exact U7 | exact U8 | exact U9 | exact U10 | exact U11 | exact U12 | exact U13 | exact U14 | exact U15 | exact U16 | exact U17 | exact U18 | exact U19 | exact U20 | exact U21 | exact U22 | exact U23) (by rfl) ?_)
  refine SPO_nil ?_
  refine thenP_n ?_
  refine SP_seq ?_
  refine SP_region ?_
  refine SPL_y (y_move rfl) rfl ?_
  refine SPL_one rfl (SP1_call (pm_typed _) Tryz.call95 rfl rfl (by repeat (first | exact Part.nil _ | (apply Part.cons; (first | exact P0 | exact P1 | exact P2 | exact P3 | exact P4 | exact P5 | exact P6 | exact P7 | exact P8 | exact P9 | exact P10 | exact P11 | exact P12 | exact P13 | exact P14 | exact P15 | exact P16 | exact P17 | exact P18 | exact P19 | exact P20 | exact P21 | exact P22 | exact P23)) | (apply Part.flat; simp only [List.cons_append, List.nil_append]) | (apply Part.nilc))) ?_)
  rintro v post H' ⟨rfl, rfl⟩ hH
  try simp only [List.cons_append, List.nil_append] at hH
  subst hH
  refine SPL_y (y_assign rfl) rfl ?_
  refine SPL_nil ?_
  refine thenP_n ?_
  refine SP_ret ?_
  refine inBlockP_ret (thenP_ret (bodyP_ret (H' := [blk pb 159 [nv, mnv, mxv, stv, .slice (some ⟨bf, 0, none⟩) fs.length fc], blk bf 164 (la ++ rowM u (some ⟨bs, 0, none⟩) sc ca1 (code.length + 1) cc1 ++ lb ++ sp), List.flatten [blk k 174 [.slice ta K1.st.length tc, .slice oa1 (K1.cs.length + 1) oc1], st, so1], blk bs 87 (codeV u.src ++ sps), cd1]) (Res1 rfl rfl) (by repeat (first | exact Part.nil _ | (apply Part.cons; (first | exact P0 | exact P1 | exact P2 | exact P3 | exact P4 | exact P5 | exact P6 | exact P7 | exact P8 | exact P9 | exact P10 | exact P11 | exact P12 | exact P13 | exact P14 | exact P15 | exact P16 | exact P17 | exact P18 | exact P19 | exact P20 | exact P21 | exact P22 | exact P23)) | (apply Part.flat; simp only [List.cons_append, List.nil_append]) | (apply Part.nilc))) ?_))
  have e : oneM fs u code K i c = ({ K1 with cs := K1.cs ++ [⟨c.op, c.imm, K1.st.length, i, false⟩] }, code ++ [⟨c.op, (posOf u.src en : Nat), 0, 0⟩], typedM b1) := by
    unfold oneM; rw [if_pos (by omega)]; unfold enterM; rw [if_pos hop, hK1, hb1, hen, hop]; rfl
  rw [e]
  refine ⟨ca1, cc1, cd1, _, rfl, ?_, isKm.intro rfl (by simp) hst (ctl1 hcs1), ?_⟩
  · simp
  · exact snocF hcd1

end Go.Sl
