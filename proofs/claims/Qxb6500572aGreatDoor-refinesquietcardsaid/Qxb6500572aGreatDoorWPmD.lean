/- Walks: package prepm, one instruction (made by program out of short notes) -/
import Derived.Test.Qxb6500572aGreatDoorWPmC
import Derived.Test.Qxb6500572aGreatDoorWLoopB
namespace Go.Sl
open Go Go.Wl Go.Proofs
set_option maxRecDepth 100000
set_option linter.unusedVariables false
set_option linter.unusedSimpArgs false
def rowM (u : Fm) (sa : Option Addr) (sc : Nat) (ca : Option Addr) (n cc : Nat) : List Value := [S u.params, S u.results, S u.locals, .slice sa u.src.length sc, .slice ca n cc]
theorem row_cell {la r lb sp : List Value} {b q : Nat} {T : TypeId} {H : Hp} {v : Value} (h : r[q]? = some v) : Cell (blk b T (la ++ r ++ lb ++ sp) :: H) b (la.length + q) v := by
  refine Cell.head ?_
  have hq := (List.getElem?_eq_some_iff.1 h).1
  rw [List.append_assoc, List.append_assoc, List.getElem?_append_right (by omega), Nat.add_sub_cancel_left, List.getElem?_append_left hq]; exact h
theorem row_set {la r lb sp : List Value} {q : Nat} {v : Value} (h : q < r.length) : (la ++ r ++ lb ++ sp).set (la.length + q) v = la ++ r.set q v ++ lb ++ sp := by
  rw [List.append_assoc, List.append_assoc, List.set_append_right _ _ (by omega), Nat.add_sub_cancel_left, List.set_append_left _ _ h]; simp
theorem row_ble {la r lb sp : List Value} {q : Nat} (h : q < r.length) : Nat.ble (la.length + q + 1) (la ++ r ++ lb ++ sp).length = true := by
  apply Nat.ble_eq_true_of_le; simp; omega
theorem snocF {a : Option Addr} {c : Nat} {code : List Flat} {f : Flat} {s : Seg} (h : Arr 181 4 a (code.length + 1) c (code.flatMap flatV ++ flatV f) s) : Arr 181 4 a (code ++ [f]).length c ((code ++ [f]).flatMap flatV) s := by
  rw [List.length_append, List.flatMap_append]; simpa using h
theorem well_ge {c : Ins} (h : well c = true) : (c.op = 6 ∨ c.op = 7 ∨ c.op = 10 ∨ c.op = 13 ∨ c.op = 14 → 0 ≤ c.imm ∧ c.imm ≤ 4294967295) ∧ (c.op = 8 → 1 ≤ c.tab.length ∧ c.tab.length ≤ 5) := by
  have hwp : wellP c.op c.imm c.tab.length := by unfold well at h; simpa using h
  unfold wellP at hwp
  exact ⟨by omega, by omega⟩
theorem row_cellx {l sp : List Value} {b o : Nat} {T : TypeId} {H : Hp} {v : Value} (h : l[o]? = some v) : Cell (blk b T (l ++ sp) :: H) b o v := by
  refine Cell.head ?_
  rw [List.getElem?_append_left (List.getElem?_eq_some_iff.1 h).1]; exact h
theorem oneM_plain {fs : List Fm} {u : Fm} {code : List Flat} {K : Km} {i : Nat} {c : Ins} (h : ¬ (1 ≤ c.op ∧ c.op ≤ 8)) {K1 : Km} {e : Int} (hp : plainM fs u K c = (K1, e)) (he : e ≠ 5) : oneM fs u code K i c = (K1, code ++ [⟨c.op, c.imm, 0, 0⟩], e) := by
  unfold oneM; rw [if_neg (by omega), if_neg (by omega), if_neg (by omega), if_neg (by omega), if_neg (by omega), hp]; dsimp only; rw [if_neg he]
theorem oneM_plain5 {fs : List Fm} {u : Fm} {code : List Flat} {K : Km} {i : Nat} {c : Ins} (h : ¬ (1 ≤ c.op ∧ c.op ≤ 8)) {K1 : Km} (hp : plainM fs u K c = (K1, 5)) : oneM fs u code K i c = (K1, code, 5) := by
  unfold oneM; rw [if_neg (by omega), if_neg (by omega), if_neg (by omega), if_neg (by omega), if_neg (by omega), hp]; dsimp only; rw [if_pos rfl]
theorem typedM_ne (b : Bool) : typedM b ≠ 5 := by cases b <;> decide
theorem getq {l : List UInt8} {j : Int} (h0 : 0 ≤ j) (h1 : j < l.length) : l[j.toNat]? = some (l.getD j.toNat 0) := by
  rw [List.getD_eq_getElem?_getD, List.getElem?_eq_getElem (by omega)]; rfl
/-- What the walk of one instruction asks of the labels. -/
structure LabOk (K : Km) (src : List Ins) : Prop where
  at_ : ∀ l, l < K.cs.length → (K.lab l).at_ < src.length
  lp : ∀ l, l < K.cs.length → (K.lab l).op = 2 → 0 ≤ (K.lab l).at_

set_option maxHeartbeats 4000000 in
theorem pm_one_unr (pb k bf : Nat) (nv mnv mxv stv : Value) (fc : Nat) (fs : List Fm) (u : Fm) (la lb sp : List Value) (sa : Option Addr) (sc : Nat) (ca : Option Addr) (cc : Nat) (code : List Flat) (sv cd : Seg) (K : Km) (s : Seg) (i : Nat) (c : Ins)
    (hi : i < u.src.length) (hci : u.src[i] = c) (hs : Arr 87 3 sa u.src.length sc (codeV u.src) sv) (hcd : Arr 181 4 ca code.length cc (code.flatMap flatV) cd) (hm : isKm k K s) (hK : KB K) (hL : LabOk K u.src)
    (hsl : u.src.length ≤ 1000) (htab : ∀ c, c ∈ u.src → c.tab.length ≤ 5) (hcl : code.length ≤ 100000) (hpl : u.params.length ≤ 100 ∧ u.results.length ≤ 100 ∧ u.locals.length ≤ 100)
    (hfs : ∀ (g : Nat) (f : Fm), fs[g]? = some f → (la ++ rowM u sa sc ca code.length cc ++ lb)[g * 5]? = some (S f.params) ∧ (la ++ rowM u sa sc ca code.length cc ++ lb)[g * 5 + 1]? = some (S f.results) ∧ f.params.length ≤ 100 ∧ f.results.length ≤ 100) (hfl : fs.length ≤ 1000) (hw : well c = true) (hop : c.op = 0) : Spec Tryz.prog 73 [.pointer (some ⟨pb, 0, none⟩), .pointer (some ⟨k, 0, none⟩), .pointer (some ⟨bf, la.length, none⟩), I i] [blk pb 159 [nv, mnv, mxv, stv, .slice (some ⟨bf, 0, none⟩) fs.length fc], blk bf 164 (la ++ rowM u sa sc ca code.length cc ++ lb ++ sp), s, sv, cd] (Ret fun v H => ∃ ca' cc' cd' s', v = I (oneM fs u code K i c).2.2 ∧ H = [blk pb 159 [nv, mnv, mxv, stv, .slice (some ⟨bf, 0, none⟩) fs.length fc], blk bf 164 (la ++ rowM u sa sc ca' (oneM fs u code K i c).2.1.length cc' ++ lb ++ sp), s', sv, cd'] ∧ isKm k (oneM fs u code K i c).1 s' ∧ Arr 181 4 ca' (oneM fs u code K i c).2.1.length cc' ((oneM fs u code K i c).2.1.flatMap flatV) cd') := by
  have hp := hK.pos
  have hz1 := hK.st
  have hz2 := hK.cs
  refine Spec_enter Tryz.func73 rfl Tryz.ntmps73 rfl ?_
  show SP _ _ _ _ _ [(0, _), (1, _), (2, _), (3, _)] _
  refine SP_seq ?_
  refine SP_region ?_
  refine SPL_y (y_assign rfl) rfl ?_
  refine SPL_nil ?_
  refine thenP_n ?_
  refine SP_seq ?_
  obtain ⟨bs, sps, rfl, hsc, hsps, rfl⟩ := hs.row (by omega)
  refine SP_region ?_
  refine SPL_y (y_move rfl) rfl ?_
  refine SPL_y (y_nil rfl) rfl ?_
  refine SPL_y (y_fa fld_164_3 rfl) rfl ?_
  refine SPL_y (y_load Tryz.isAgg34 rfl (by repeat (first | exact row_cell (q := 3) rfl | apply Cell.tail))) rfl ?_
  refine SPL_y (y_move rfl) rfl ?_
  refine SPL_y (y_ia Tryz.underlying34 Tryz.sizeOf87 rfl rfl (by omega)) rfl ?_
  refine SPL_y (y_loads Tryz.isAgg87 Tryz.sizeOf87 rfl rfl (by repeat (first | exact flat_cellsE insV_len (i := i) rfl hi hci | apply Cells.tail))) rfl ?_
  refine SPL_one rfl (SP1_alloc Tryz.zeroValue87 rfl rfl ?_)
  intro b9
  refine SPL_one rfl (SP1_storeAll Tryz.sizeOf87 rfl rfl rfl rfl rfl (by first | exact U0 | exact U1 | exact U2 | exact U3 | exact U4 | exact U5 | exact U6 | exact U7 | exact U8 | exact U9 | exact U10 | exact U11 | exact U12 | exact U13 | exact U14 | exact U15 | exact U16 | exact U17 | exact U18 | exact U19 | exact U20 | exact U21 | exact U22 | exact U23) (by rfl) ?_)
  refine SPL_y (y_assign rfl) rfl ?_
  refine SPL_nil ?_
  refine thenP_n ?_
  refine SP_seq ?_
  refine SP_region ?_
  refine SPL_y (y_fa fld_87_0 rfl) rfl ?_
  refine SPL_y (y_load Tryz.isAgg3 rfl (by repeat (first | exact Cell.head rfl | apply Cell.tail))) rfl ?_
  refine SPL_y (y_fa fld_87_1 rfl) rfl ?_
  refine SPL_y (y_load Tryz.isAgg3 rfl (by repeat (first | exact Cell.head rfl | apply Cell.tail))) rfl ?_
  refine SPL_y (y_build B181 rfl rfl (by simp only [fillL, List.foldl_cons, List.foldl_nil, List.set_cons_zero, List.set_cons_succ]; exact rfl)) rfl ?_
  refine SPL_one rfl (SP1_alloc Tryz.zeroValue181 rfl rfl ?_)
  intro b11
  refine SPL_one rfl (SP1_storeAll Tryz.sizeOf181 rfl rfl rfl rfl rfl (by first | exact U0 | exact U1 | exact U2 | exact U3 | exact U4 | exact U5 | exact U6 | exact U7 | exact U8 | exact U9 | exact U10 | exact U11 | exact U12 | exact U13 | exact U14 | exact U15 | exact U16 | exact U17 | exact U18 | exact U19 | exact U20 | exact U21 | exact U22 | exact U23) (by rfl) ?_)
  refine SPL_nil ?_
  refine thenP_n ?_
  refine SP_seq ?_
  refine SP_draw 999 [(0, 0), (1, 0), (2, 0), (4, 0), (5, 0), (6, 0), (3, 1), (7, 1), (8, 0), (9, 0)] mixed (by kernel_rfl) (fun _ _ _ _ _ h => h) (Part.refl _) ?_
  refine SPO_p rfl (y_move rfl) rfl ?_
  refine SPO_p rfl (y_nil rfl) rfl ?_
  refine SPO_p rfl (y_fa fld_164_0 rfl) rfl ?_
  refine SPO_p rfl (y_move rfl) rfl ?_
  refine SPO_p rfl (y_nil rfl) rfl ?_
  refine SPO_p rfl (y_fa fld_164_2 rfl) rfl ?_
  refine SPO_h rfl (y_load Tryz.isAgg9 rfl (by repeat (first | exact row_cell (q := 0) rfl | apply Cell.tail))) rfl ?_
  refine SPO_h rfl (y_load Tryz.isAgg9 rfl (by repeat (first | exact row_cell (q := 2) rfl | apply Cell.tail))) rfl ?_
  refine SPO_p rfl (y_cat rfl rfl (by first | omega | (simp; omega))) rfl ?_
  refine SPO_p rfl (y_assign rfl) rfl ?_
  refine SPO_nil ?_
  refine thenP_n ?_
  refine SP_seq ?_
  refine SP_seq ?_
  refine SP_region ?_
  refine SPL_y (y_fa fld_87_0 rfl) rfl ?_
  refine SPL_y (y_load Tryz.isAgg3 rfl (by repeat (first | exact Cell.head rfl | apply Cell.tail))) rfl ?_
  refine SPL_nil ?_
  refine thenP_n ?_
  refine SP_block ?_
  refine SP_seq ?_
  refine SP_seq ?_
  refine SP_region ?_
  refine SPL_y (y_eqlF rfl rfl (by omega)) rfl ?_
  refine SPL_y (y_assign rfl) rfl ?_
  refine SPL_nil ?_
  refine thenP_n ?_
  refine SP_cond_f rfl ?_
  refine SP_seq ?_
  refine SP_region ?_
  refine SPL_y (y_eqlF rfl rfl (by omega)) rfl ?_
  refine SPL_y (y_assign rfl) rfl ?_
  refine SPL_nil ?_
  refine thenP_n ?_
  refine SP_cond_f rfl ?_
  refine SP_region ?_
  refine SPL_y (y_eqlF rfl rfl (by omega)) rfl ?_
  refine SPL_y (y_assign rfl) rfl ?_
  refine SPL_nil ?_
  refine thenP_n ?_
  refine SP_cond_f rfl ?_
  refine SP_seq ?_
  refine SP_region ?_
  refine SPL_y (y_eqlF rfl rfl (by omega)) rfl ?_
  refine SPL_y (y_assign rfl) rfl ?_
  refine SPL_nil ?_
  refine thenP_n ?_
  refine SP_cond_f rfl ?_
  refine SP_seq ?_
  refine SP_region ?_
  refine SPL_y (y_eqlF rfl rfl (by omega)) rfl ?_
  refine SPL_y (y_assign rfl) rfl ?_
  refine SPL_nil ?_
  refine thenP_n ?_
  refine SP_cond_f rfl ?_
  refine SP_seq ?_
  refine SP_seq ?_
  refine SP_region ?_
  refine SPL_y (y_eqlF rfl rfl (by omega)) rfl ?_
  refine SPL_y (y_assign rfl) rfl ?_
  refine SPL_nil ?_
  refine thenP_n ?_
  refine SP_cond_f rfl ?_
  refine SP_region ?_
  refine SPL_y (y_eqlF rfl rfl (by omega)) rfl ?_
  refine SPL_y (y_assign rfl) rfl ?_
  refine SPL_nil ?_
  refine thenP_n ?_
  refine SP_cond_f rfl ?_
  refine SP_seq ?_
  refine SP_region ?_
  refine SPL_y (y_eqlF rfl rfl (by omega)) rfl ?_
  refine SPL_y (y_assign rfl) rfl ?_
  refine SPL_nil ?_
  refine thenP_n ?_
  refine SP_cond_f rfl ?_
  refine SP_seq ?_
  refine SP_region ?_
  refine SPL_y (y_eqlT rfl rfl hop) rfl ?_
  refine SPL_y (y_assign rfl) rfl ?_
  refine SPL_nil ?_
  refine thenP_n ?_
  refine SP_cond_t rfl ?_
  refine SP_region ?_
  refine SPL_y (y_move rfl) rfl ?_
  refine SPL_one rfl (SP1_call (pm_dead k K s hm hK) Tryz.call101 rfl rfl (by repeat (first | exact Part.nil _ | (apply Part.cons; (first | exact P0 | exact P1 | exact P2 | exact P3 | exact P4 | exact P5 | exact P6 | exact P7 | exact P8 | exact P9 | exact P10 | exact P11 | exact P12 | exact P13 | exact P14 | exact P15 | exact P16 | exact P17 | exact P18 | exact P19 | exact P20 | exact P21 | exact P22 | exact P23)) | (apply Part.flat; simp only [List.cons_append, List.nil_append]) | (apply Part.nilc))) ?_)
  rintro v post H' ⟨s1, rfl, rfl, hm1⟩ hH
  try simp only [List.cons_append, List.nil_append] at hH
  subst hH
  refine SPL_nil ?_
  refine inBlockP_n ?_
  refine thenP_n ?_
  refine SP_seq ?_
  refine SP_draw 7 [(0, 0), (1, 0), (2, 0), (3, 0), (4, 1), (5, 1), (6, 2), (7, 3), (8, 0), (9, 0), (10, 3)] mixed (by kernel_rfl) (fun _ _ _ _ _ h => h) (Part.refl _) ?_
  refine SPO_p rfl (y_move rfl) rfl ?_
  refine SPO_p rfl (y_move rfl) rfl ?_
  refine SPO_p rfl (y_nil rfl) rfl ?_
  refine SPO_p rfl (y_fa fld_164_4 rfl) rfl ?_
  refine SPO_h rfl (y_load Tryz.isAgg106 rfl (by repeat (first | exact row_cell (q := 4) rfl | apply Cell.tail))) rfl ?_
  refine SPO_h rfl (y_loads Tryz.isAgg181 Tryz.sizeOf181 rfl rfl (by repeat (first | exact Cells.all _ | exact Cells.head rfl | apply Cells.tail))) rfl ?_
  refine SPO_a rfl rfl (SP1_slice1 el_106 rfl rfl rfl rfl rfl ?_)
  intro b512
  refine ⟨⟨_, (by repeat (first | exact Part.nil _ | (apply Part.cons; (first | exact P0 | exact P1 | exact P2 | exact P3 | exact P4 | exact P5 | exact P6 | exact P7 | exact P8 | exact P9 | exact P10 | exact P11 | exact P12 | exact P13 | exact P14 | exact P15 | exact P16 | exact P17 | exact P18 | exact P19 | exact P20 | exact P21 | exact P22 | exact P23)) | (apply Part.flat; simp only [List.cons_append, List.nil_append]) | (apply Part.nilc)))⟩, ?_⟩
  refine SPO_z (k := 0) rfl rfl (SP1_append el_106 (.inl Tryz.underlying106) rfl rfl hcd (by first | exact P0 | exact P1 | exact P2 | exact P3 | exact P4 | exact P5 | exact P6 | exact P7 | exact P8 | exact P9 | exact P10 | exact P11 | exact P12 | exact P13 | exact P14 | exact P15 | exact P16 | exact P17 | exact P18 | exact P19 | exact P20 | exact P21 | exact P22 | exact P23) (Src.of (by repeat (first | exact Cells.all _ | exact Cells.head rfl | apply Cells.tail)) (by rfl)) (by rfl) (by omega) rfl ?_)
  intro ca1 cc1 cd1 hcd1
  refine SPO_p rfl (y_nil rfl) rfl ?_
  refine SPO_p rfl (y_fa fld_164_4 rfl) rfl ?_
  refine SPO_z (k := 0) rfl rfl (SP1_store Tryz.sizeOf106 rfl rfl rfl (by first | exact U0 | exact U1 | exact U2 | exact U3 | exact U4 | exact U5 | exact U6 | exact U7 | exact U8 | exact U9 | exact U10 | exact U11 | exact U12 | exact U13 | exact U14 | exact U15 | exact U16 | exact U17 | exact U18 | exact U19 | exact U20 | exact U21 | exact U22 | exact U23) (row_ble (r := rowM u (some ⟨bs, 0, none⟩) sc ca code.length cc) (q := 4) (show 4 < 5 by decide)) ?_)
  rw [row_set (r := rowM u (some ⟨bs, 0, none⟩) sc ca code.length cc) (q := 4) (show 4 < 5 by decide)]
  refine SPO_nil ?_
  refine thenP_n ?_
  refine SP_seq ?_
  refine SP_region ?_
  refine SPL_y (y_move rfl) rfl ?_
  refine SPL_one rfl (SP1_call (pm_typed _) Tryz.call95 rfl rfl (by repeat (first | exact Part.nil _ | (apply Part.cons; (first | exact P0 | exact P1 | exact P2 | exact P3 | exact P4 | exact P5 | exact P6 | exact P7 | exact P8 | exact P9 | exact P10 | exact P11 | exact P12 | exact P13 | exact P14 | exact P15 | exact P16 | exact P17 | exact P18 | exact P19 | exact P20 | exact P21 | exact P22 | exact P23)) | (apply Part.flat; simp only [List.cons_append, List.nil_append]) | (apply Part.nilc))) ?_)
  rintro v post H' ⟨rfl, rfl⟩ hH
  try simp only [List.cons_append, List.nil_append] at hH
  subst hH
  refine SPL_y (y_assign rfl) rfl ?_
  refine SPL_nil ?_
  refine thenP_n ?_
  refine SP_ret ?_
  refine bodyP_ret (H' := [blk pb 159 [nv, mnv, mxv, stv, .slice (some ⟨bf, 0, none⟩) fs.length fc], blk bf 164 (la ++ rowM u (some ⟨bs, 0, none⟩) sc ca1 (code.length + 1) cc1 ++ lb ++ sp), s1, blk bs 87 (codeV u.src ++ sps), cd1]) (Res1 rfl rfl) (by repeat (first | exact Part.nil _ | (apply Part.cons; (first | exact P0 | exact P1 | exact P2 | exact P3 | exact P4 | exact P5 | exact P6 | exact P7 | exact P8 | exact P9 | exact P10 | exact P11 | exact P12 | exact P13 | exact P14 | exact P15 | exact P16 | exact P17 | exact P18 | exact P19 | exact P20 | exact P21 | exact P22 | exact P23)) | (apply Part.flat; simp only [List.cons_append, List.nil_append]) | (apply Part.nilc))) ?_
  have e : oneM fs u code K i c = (deadM K, code ++ [⟨c.op, c.imm, 0, 0⟩], 0) := oneM_plain (by omega) (by unfold plainM; rw [if_pos hop]) (by decide)
  rw [e]
  refine ⟨ca1, cc1, cd1, s1, rfl, ?_, hm1, ?_⟩
  · simp
  · exact snocF hcd1

set_option maxHeartbeats 4000000 in
theorem pm_one_ret (pb k bf : Nat) (nv mnv mxv stv : Value) (fc : Nat) (fs : List Fm) (u : Fm) (la lb sp : List Value) (sa : Option Addr) (sc : Nat) (ca : Option Addr) (cc : Nat) (code : List Flat) (sv cd : Seg) (K : Km) (s : Seg) (i : Nat) (c : Ins)
    (hi : i < u.src.length) (hci : u.src[i] = c) (hs : Arr 87 3 sa u.src.length sc (codeV u.src) sv) (hcd : Arr 181 4 ca code.length cc (code.flatMap flatV) cd) (hm : isKm k K s) (hK : KB K) (hL : LabOk K u.src)
    (hsl : u.src.length ≤ 1000) (htab : ∀ c, c ∈ u.src → c.tab.length ≤ 5) (hcl : code.length ≤ 100000) (hpl : u.params.length ≤ 100 ∧ u.results.length ≤ 100 ∧ u.locals.length ≤ 100)
    (hfs : ∀ (g : Nat) (f : Fm), fs[g]? = some f → (la ++ rowM u sa sc ca code.length cc ++ lb)[g * 5]? = some (S f.params) ∧ (la ++ rowM u sa sc ca code.length cc ++ lb)[g * 5 + 1]? = some (S f.results) ∧ f.params.length ≤ 100 ∧ f.results.length ≤ 100) (hfl : fs.length ≤ 1000) (hw : well c = true) (hop : c.op = 9) : Spec Tryz.prog 73 [.pointer (some ⟨pb, 0, none⟩), .pointer (some ⟨k, 0, none⟩), .pointer (some ⟨bf, la.length, none⟩), I i] [blk pb 159 [nv, mnv, mxv, stv, .slice (some ⟨bf, 0, none⟩) fs.length fc], blk bf 164 (la ++ rowM u sa sc ca code.length cc ++ lb ++ sp), s, sv, cd] (Ret fun v H => ∃ ca' cc' cd' s', v = I (oneM fs u code K i c).2.2 ∧ H = [blk pb 159 [nv, mnv, mxv, stv, .slice (some ⟨bf, 0, none⟩) fs.length fc], blk bf 164 (la ++ rowM u sa sc ca' (oneM fs u code K i c).2.1.length cc' ++ lb ++ sp), s', sv, cd'] ∧ isKm k (oneM fs u code K i c).1 s' ∧ Arr 181 4 ca' (oneM fs u code K i c).2.1.length cc' ((oneM fs u code K i c).2.1.flatMap flatV) cd') := by
  have hp := hK.pos
  have hz1 := hK.st
  have hz2 := hK.cs
  refine Spec_enter Tryz.func73 rfl Tryz.ntmps73 rfl ?_
  show SP _ _ _ _ _ [(0, _), (1, _), (2, _), (3, _)] _
  refine SP_seq ?_
  refine SP_region ?_
  refine SPL_y (y_assign rfl) rfl ?_
  refine SPL_nil ?_
  refine thenP_n ?_
  refine SP_seq ?_
  obtain ⟨bs, sps, rfl, hsc, hsps, rfl⟩ := hs.row (by omega)
  refine SP_region ?_
  refine SPL_y (y_move rfl) rfl ?_
  refine SPL_y (y_nil rfl) rfl ?_
  refine SPL_y (y_fa fld_164_3 rfl) rfl ?_
  refine SPL_y (y_load Tryz.isAgg34 rfl (by repeat (first | exact row_cell (q := 3) rfl | apply Cell.tail))) rfl ?_
  refine SPL_y (y_move rfl) rfl ?_
  refine SPL_y (y_ia Tryz.underlying34 Tryz.sizeOf87 rfl rfl (by omega)) rfl ?_
  refine SPL_y (y_loads Tryz.isAgg87 Tryz.sizeOf87 rfl rfl (by repeat (first | exact flat_cellsE insV_len (i := i) rfl hi hci | apply Cells.tail))) rfl ?_
  refine SPL_one rfl (SP1_alloc Tryz.zeroValue87 rfl rfl ?_)
  intro b9
  refine SPL_one rfl (SP1_storeAll Tryz.sizeOf87 rfl rfl rfl rfl rfl (by first | exact U0 | exact U1 | exact U2 | exact U3 | exact U4 | exact U5 | exact U6 | exact U7 | exact U8 | exact U9 | exact U10 | exact U11 | exact U12 | exact U13 | exact U14 | exact U15 | exact U16 | exact U17 | exact U18 | exact U19 | exact U20 | exact U21 | exact U22 | exact U23) (by rfl) ?_)
  refine SPL_y (y_assign rfl) rfl ?_
  refine SPL_nil ?_
  refine thenP_n ?_
  refine SP_seq ?_
  refine SP_region ?_
  refine SPL_y (y_fa fld_87_0 rfl) rfl ?_
  refine SPL_y (y_load Tryz.isAgg3 rfl (by repeat (first | exact Cell.head rfl | apply Cell.tail))) rfl ?_
  refine SPL_y (y_fa fld_87_1 rfl) rfl ?_
  refine SPL_y (y_load Tryz.isAgg3 rfl (by repeat (first | exact Cell.head rfl | apply Cell.tail))) rfl ?_
  refine SPL_y (y_build B181 rfl rfl (by simp only [fillL, List.foldl_cons, List.foldl_nil, List.set_cons_zero, List.set_cons_succ]; exact rfl)) rfl ?_
  refine SPL_one rfl (SP1_alloc Tryz.zeroValue181 rfl rfl ?_)
  intro b11
  refine SPL_one rfl (SP1_storeAll Tryz.sizeOf181 rfl rfl rfl rfl rfl (by first | exact U0 | exact U1 | exact U2 | exact U3 | exact U4 | exact U5 | exact U6 | exact U7 | exact U8 | exact U9 | exact U10 | exact U11 | exact U12 | exact U13 | exact U14 | exact U15 | exact U16 | exact U17 | exact U18 | exact U19 | exact U20 | exact U21 | exact U22 | exact U23) (by rfl) ?_)
  refine SPL_nil ?_
  refine thenP_n ?_
  refine SP_seq ?_
  refine SP_draw 999 [(0, 0), (1, 0), (2, 0), (4, 0), (5, 0), (6, 0), (3, 1), (7, 1), (8, 0), (9, 0)] mixed (by kernel_rfl) (fun _ _ _ _ _ h => h) (Part.refl _) ?_
  refine SPO_p rfl (y_move rfl) rfl ?_
  refine SPO_p rfl (y_nil rfl) rfl ?_
  refine SPO_p rfl (y_fa fld_164_0 rfl) rfl ?_
  refine SPO_p rfl (y_move rfl) rfl ?_
  refine SPO_p rfl (y_nil rfl) rfl ?_
  refine SPO_p rfl (y_fa fld_164_2 rfl) rfl ?_
  refine SPO_h rfl (y_load Tryz.isAgg9 rfl (by repeat (first | exact row_cell (q := 0) rfl | apply Cell.tail))) rfl ?_
  refine SPO_h rfl (y_load Tryz.isAgg9 rfl (by repeat (first | exact row_cell (q := 2) rfl | apply Cell.tail))) rfl ?_
  refine SPO_p rfl (y_cat rfl rfl (by first | omega | (simp; omega))) rfl ?_
  refine SPO_p rfl (y_assign rfl) rfl ?_
  refine SPO_nil ?_
  refine thenP_n ?_
  refine SP_seq ?_
  refine SP_seq ?_
  refine SP_region ?_
  refine SPL_y (y_fa fld_87_0 rfl) rfl ?_
  refine SPL_y (y_load Tryz.isAgg3 rfl (by repeat (first | exact Cell.head rfl | apply Cell.tail))) rfl ?_
  refine SPL_nil ?_
  refine thenP_n ?_
  refine SP_block ?_
  refine SP_seq ?_
  refine SP_seq ?_
  refine SP_region ?_
  refine SPL_y (y_eqlF rfl rfl (by omega)) rfl ?_
  refine SPL_y (y_assign rfl) rfl ?_
  refine SPL_nil ?_
  refine thenP_n ?_
  refine SP_cond_f rfl ?_
  refine SP_seq ?_
  refine SP_region ?_
  refine SPL_y (y_eqlF rfl rfl (by omega)) rfl ?_
  refine SPL_y (y_assign rfl) rfl ?_
  refine SPL_nil ?_
  refine thenP_n ?_
  refine SP_cond_f rfl ?_
  refine SP_region ?_
  refine SPL_y (y_eqlF rfl rfl (by omega)) rfl ?_
  refine SPL_y (y_assign rfl) rfl ?_
  refine SPL_nil ?_
  refine thenP_n ?_
  refine SP_cond_f rfl ?_
  refine SP_seq ?_
  refine SP_region ?_
  refine SPL_y (y_eqlF rfl rfl (by omega)) rfl ?_
  refine SPL_y (y_assign rfl) rfl ?_
  refine SPL_nil ?_
  refine thenP_n ?_
  refine SP_cond_f rfl ?_
  refine SP_seq ?_
  refine SP_region ?_
  refine SPL_y (y_eqlF rfl rfl (by omega)) rfl ?_
  refine SPL_y (y_assign rfl) rfl ?_
  refine SPL_nil ?_
  refine thenP_n ?_
  refine SP_cond_f rfl ?_
  refine SP_seq ?_
  refine SP_seq ?_
  refine SP_region ?_
  refine SPL_y (y_eqlF rfl rfl (by omega)) rfl ?_
  refine SPL_y (y_assign rfl) rfl ?_
  refine SPL_nil ?_
  refine thenP_n ?_
  refine SP_cond_f rfl ?_
  refine SP_region ?_
  refine SPL_y (y_eqlF rfl rfl (by omega)) rfl ?_
  refine SPL_y (y_assign rfl) rfl ?_
  refine SPL_nil ?_
  refine thenP_n ?_
  refine SP_cond_f rfl ?_
  refine SP_seq ?_
  refine SP_region ?_
  refine SPL_y (y_eqlF rfl rfl (by omega)) rfl ?_
  refine SPL_y (y_assign rfl) rfl ?_
  refine SPL_nil ?_
  refine thenP_n ?_
  refine SP_cond_f rfl ?_
  refine SP_seq ?_
  refine SP_region ?_
  refine SPL_y (y_eqlF rfl rfl (by omega)) rfl ?_
  refine SPL_y (y_assign rfl) rfl ?_
  refine SPL_nil ?_
  refine thenP_n ?_
  refine SP_cond_f rfl ?_
  refine SP_seq ?_
  refine SP_region ?_
  refine SPL_y (y_eqlT rfl rfl hop) rfl ?_
  refine SPL_y (y_assign rfl) rfl ?_
  refine SPL_nil ?_
  refine thenP_n ?_
  refine SP_cond_t rfl ?_
  refine SP_seq ?_
  refine SP_region ?_
  refine SPL_y (y_move rfl) rfl ?_
  refine SPL_y (y_move rfl) rfl ?_
  refine SPL_y (y_nil rfl) rfl ?_
  refine SPL_y (y_fa fld_164_1 rfl) rfl ?_
  refine SPL_y (y_load Tryz.isAgg9 rfl (by repeat (first | exact row_cell (q := 1) rfl | apply Cell.tail))) rfl ?_
  refine SPL_one rfl (SP1_call (pm_pops k K s u.results hm hK (by omega)) Tryz.call92 rfl rfl (by repeat (first | exact Part.nil _ | (apply Part.cons; (first | exact P0 | exact P1 | exact P2 | exact P3 | exact P4 | exact P5 | exact P6 | exact P7 | exact P8 | exact P9 | exact P10 | exact P11 | exact P12 | exact P13 | exact P14 | exact P15 | exact P16 | exact P17 | exact P18 | exact P19 | exact P20 | exact P21 | exact P22 | exact P23)) | (apply Part.flat; simp only [List.cons_append, List.nil_append]) | (apply Part.nilc))) ?_)
  rintro v post H' ⟨s1, rfl, rfl, hm1⟩ hH
  try simp only [List.cons_append, List.nil_append] at hH
  subst hH
  refine SPL_y (y_assign rfl) rfl ?_
  refine SPL_nil ?_
  refine thenP_n ?_
  refine SP_region ?_
  refine SPL_y (y_move rfl) rfl ?_
  refine SPL_one rfl (SP1_call (pm_dead k (popsM K u.results).1 s1 hm1 (hK.pops _)) Tryz.call101 rfl rfl (by repeat (first | exact Part.nil _ | (apply Part.cons; (first | exact P0 | exact P1 | exact P2 | exact P3 | exact P4 | exact P5 | exact P6 | exact P7 | exact P8 | exact P9 | exact P10 | exact P11 | exact P12 | exact P13 | exact P14 | exact P15 | exact P16 | exact P17 | exact P18 | exact P19 | exact P20 | exact P21 | exact P22 | exact P23)) | (apply Part.flat; simp only [List.cons_append, List.nil_append]) | (apply Part.nilc))) ?_)
  rintro v post H' ⟨s2, rfl, rfl, hm2⟩ hH
  try simp only [List.cons_append, List.nil_append] at hH
  subst hH
  refine SPL_nil ?_
  refine inBlockP_n ?_
  refine thenP_n ?_
  refine SP_seq ?_
  refine SP_draw 7 [(0, 0), (1, 0), (2, 0), (3, 0), (4, 1), (5, 1), (6, 2), (7, 3), (8, 0), (9, 0), (10, 3)] mixed (by kernel_rfl) (fun _ _ _ _ _ h => h) (Part.refl _) ?_
  refine SPO_p rfl (y_move rfl) rfl ?_
  refine SPO_p rfl (y_move rfl) rfl ?_
  refine SPO_p rfl (y_nil rfl) rfl ?_
  refine SPO_p rfl (y_fa fld_164_4 rfl) rfl ?_
  refine SPO_h rfl (y_load Tryz.isAgg106 rfl (by repeat (first | exact row_cell (q := 4) rfl | apply Cell.tail))) rfl ?_
  refine SPO_h rfl (y_loads Tryz.isAgg181 Tryz.sizeOf181 rfl rfl (by repeat (first | exact Cells.all _ | exact Cells.head rfl | apply Cells.tail))) rfl ?_
  refine SPO_a rfl rfl (SP1_slice1 el_106 rfl rfl rfl rfl rfl ?_)
  intro b512
  refine ⟨⟨_, (by repeat (first | exact Part.nil _ | (apply Part.cons; (first | exact P0 | exact P1 | exact P2 | exact P3 | exact P4 | exact P5 | exact P6 | exact P7 | exact P8 | exact P9 | exact P10 | exact P11 | exact P12 | exact P13 | exact P14 | exact P15 | exact P16 | exact P17 | exact P18 | exact P19 | exact P20 | exact P21 | exact P22 | exact P23)) | (apply Part.flat; simp only [List.cons_append, List.nil_append]) | (apply Part.nilc)))⟩, ?_⟩
  refine SPO_z (k := 0) rfl rfl (SP1_append el_106 (.inl Tryz.underlying106) rfl rfl hcd (by first | exact P0 | exact P1 | exact P2 | exact P3 | exact P4 | exact P5 | exact P6 | exact P7 | exact P8 | exact P9 | exact P10 | exact P11 | exact P12 | exact P13 | exact P14 | exact P15 | exact P16 | exact P17 | exact P18 | exact P19 | exact P20 | exact P21 | exact P22 | exact P23) (Src.of (by repeat (first | exact Cells.all _ | exact Cells.head rfl | apply Cells.tail)) (by rfl)) (by rfl) (by omega) rfl ?_)
  intro ca1 cc1 cd1 hcd1
  refine SPO_p rfl (y_nil rfl) rfl ?_
  refine SPO_p rfl (y_fa fld_164_4 rfl) rfl ?_
  refine SPO_z (k := 0) rfl rfl (SP1_store Tryz.sizeOf106 rfl rfl rfl (by first | exact U0 | exact U1 | exact U2 | exact U3 | exact U4 | exact U5 | exact U6 | exact U7 | exact U8 | exact U9 | exact U10 | exact U11 | exact U12 | exact U13 | exact U14 | exact U15 | exact U16 | exact U17 | exact U18 | exact U19 | exact U20 | exact U21 | exact U22 | exact U23) (row_ble (r := rowM u (some ⟨bs, 0, none⟩) sc ca code.length cc) (q := 4) (show 4 < 5 by decide)) ?_)
  rw [row_set (r := rowM u (some ⟨bs, 0, none⟩) sc ca code.length cc) (q := 4) (show 4 < 5 by decide)]
  refine SPO_nil ?_
  refine thenP_n ?_
  refine SP_seq ?_
  refine SP_region ?_
  refine SPL_y (y_move rfl) rfl ?_
  refine SPL_one rfl (SP1_call (pm_typed _) Tryz.call95 rfl rfl (by repeat (first | exact Part.nil _ | (apply Part.cons; (first | exact P0 | exact P1 | exact P2 | exact P3 | exact P4 | exact P5 | exact P6 | exact P7 | exact P8 | exact P9 | exact P10 | exact P11 | exact P12 | exact P13 | exact P14 | exact P15 | exact P16 | exact P17 | exact P18 | exact P19 | exact P20 | exact P21 | exact P22 | exact P23)) | (apply Part.flat; simp only [List.cons_append, List.nil_append]) | (apply Part.nilc))) ?_)
  rintro v post H' ⟨rfl, rfl⟩ hH
  try simp only [List.cons_append, List.nil_append] at hH
  subst hH
  refine SPL_y (y_assign rfl) rfl ?_
  refine SPL_nil ?_
  refine thenP_n ?_
  refine SP_ret ?_
  refine bodyP_ret (H' := [blk pb 159 [nv, mnv, mxv, stv, .slice (some ⟨bf, 0, none⟩) fs.length fc], blk bf 164 (la ++ rowM u (some ⟨bs, 0, none⟩) sc ca1 (code.length + 1) cc1 ++ lb ++ sp), s2, blk bs 87 (codeV u.src ++ sps), cd1]) (Res1 rfl rfl) (by repeat (first | exact Part.nil _ | (apply Part.cons; (first | exact P0 | exact P1 | exact P2 | exact P3 | exact P4 | exact P5 | exact P6 | exact P7 | exact P8 | exact P9 | exact P10 | exact P11 | exact P12 | exact P13 | exact P14 | exact P15 | exact P16 | exact P17 | exact P18 | exact P19 | exact P20 | exact P21 | exact P22 | exact P23)) | (apply Part.flat; simp only [List.cons_append, List.nil_append]) | (apply Part.nilc))) ?_
  have e : oneM fs u code K i c = (deadM (popsM K u.results).1, code ++ [⟨c.op, c.imm, 0, 0⟩], typedM (popsM K u.results).2) := oneM_plain (by omega) (by unfold plainM; rw [if_neg (by omega), if_pos hop]) (typedM_ne _)
  rw [e]
  refine ⟨ca1, cc1, cd1, s2, rfl, ?_, hm2, ?_⟩
  · simp
  · exact snocF hcd1

set_option maxHeartbeats 4000000 in
theorem pm_one_drop (pb k bf : Nat) (nv mnv mxv stv : Value) (fc : Nat) (fs : List Fm) (u : Fm) (la lb sp : List Value) (sa : Option Addr) (sc : Nat) (ca : Option Addr) (cc : Nat) (code : List Flat) (sv cd : Seg) (K : Km) (s : Seg) (i : Nat) (c : Ins)
    (hi : i < u.src.length) (hci : u.src[i] = c) (hs : Arr 87 3 sa u.src.length sc (codeV u.src) sv) (hcd : Arr 181 4 ca code.length cc (code.flatMap flatV) cd) (hm : isKm k K s) (hK : KB K) (hL : LabOk K u.src)
    (hsl : u.src.length ≤ 1000) (htab : ∀ c, c ∈ u.src → c.tab.length ≤ 5) (hcl : code.length ≤ 100000) (hpl : u.params.length ≤ 100 ∧ u.results.length ≤ 100 ∧ u.locals.length ≤ 100)
    (hfs : ∀ (g : Nat) (f : Fm), fs[g]? = some f → (la ++ rowM u sa sc ca code.length cc ++ lb)[g * 5]? = some (S f.params) ∧ (la ++ rowM u sa sc ca code.length cc ++ lb)[g * 5 + 1]? = some (S f.results) ∧ f.params.length ≤ 100 ∧ f.results.length ≤ 100) (hfl : fs.length ≤ 1000) (hw : well c = true) (hop : c.op = 11) : Spec Tryz.prog 73 [.pointer (some ⟨pb, 0, none⟩), .pointer (some ⟨k, 0, none⟩), .pointer (some ⟨bf, la.length, none⟩), I i] [blk pb 159 [nv, mnv, mxv, stv, .slice (some ⟨bf, 0, none⟩) fs.length fc], blk bf 164 (la ++ rowM u sa sc ca code.length cc ++ lb ++ sp), s, sv, cd] (Ret fun v H => ∃ ca' cc' cd' s', v = I (oneM fs u code K i c).2.2 ∧ H = [blk pb 159 [nv, mnv, mxv, stv, .slice (some ⟨bf, 0, none⟩) fs.length fc], blk bf 164 (la ++ rowM u sa sc ca' (oneM fs u code K i c).2.1.length cc' ++ lb ++ sp), s', sv, cd'] ∧ isKm k (oneM fs u code K i c).1 s' ∧ Arr 181 4 ca' (oneM fs u code K i c).2.1.length cc' ((oneM fs u code K i c).2.1.flatMap flatV) cd') := by
  have hp := hK.pos
  have hz1 := hK.st
  have hz2 := hK.cs
  refine Spec_enter Tryz.func73 rfl Tryz.ntmps73 rfl ?_
  show SP _ _ _ _ _ [(0, _), (1, _), (2, _), (3, _)] _
  refine SP_seq ?_
  refine SP_region ?_
  refine SPL_y (y_assign rfl) rfl ?_
  refine SPL_nil ?_
  refine thenP_n ?_
  refine SP_seq ?_
  obtain ⟨bs, sps, rfl, hsc, hsps, rfl⟩ := hs.row (by omega)
  refine SP_region ?_
  refine SPL_y (y_move rfl) rfl ?_
  refine SPL_y (y_nil rfl) rfl ?_
  refine SPL_y (y_fa fld_164_3 rfl) rfl ?_
  refine SPL_y (y_load Tryz.isAgg34 rfl (by repeat (first | exact row_cell (q := 3) rfl | apply Cell.tail))) rfl ?_
  refine SPL_y (y_move rfl) rfl ?_
  refine SPL_y (y_ia Tryz.underlying34 Tryz.sizeOf87 rfl rfl (by omega)) rfl ?_
  refine SPL_y (y_loads Tryz.isAgg87 Tryz.sizeOf87 rfl rfl (by repeat (first | exact flat_cellsE insV_len (i := i) rfl hi hci | apply Cells.tail))) rfl ?_
  refine SPL_one rfl (SP1_alloc Tryz.zeroValue87 rfl rfl ?_)
  intro b9
  refine SPL_one rfl (SP1_storeAll Tryz.sizeOf87 rfl rfl rfl rfl rfl (by first | exact U0 | exact U1 | exact U2 | exact U3 | exact U4 | exact U5 | exact U6 | exact U7 | exact U8 | exact U9 | exact U10 | exact U11 | exact U12 | exact U13 | exact U14 | exact U15 | exact U16 | exact U17 | exact U18 | exact U19 | exact U20 | exact U21 | exact U22 | exact U23) (by rfl) ?_)
  refine SPL_y (y_assign rfl) rfl ?_
  refine SPL_nil ?_
  refine thenP_n ?_
  refine SP_seq ?_
  refine SP_region ?_
  refine SPL_y (y_fa fld_87_0 rfl) rfl ?_
  refine SPL_y (y_load Tryz.isAgg3 rfl (by repeat (first | exact Cell.head rfl | apply Cell.tail))) rfl ?_
  refine SPL_y (y_fa fld_87_1 rfl) rfl ?_
  refine SPL_y (y_load Tryz.isAgg3 rfl (by repeat (first | exact Cell.head rfl | apply Cell.tail))) rfl ?_
  refine SPL_y (y_build B181 rfl rfl (by simp only [fillL, List.foldl_cons, List.foldl_nil, List.set_cons_zero, List.set_cons_succ]; exact rfl)) rfl ?_
  refine SPL_one rfl (SP1_alloc Tryz.zeroValue181 rfl rfl ?_)
  intro b11
  refine SPL_one rfl (SP1_storeAll Tryz.sizeOf181 rfl rfl rfl rfl rfl (by first | exact U0 | exact U1 | exact U2 | exact U3 | exact U4 | exact U5 | exact U6 | exact U7 | exact U8 | exact U9 | exact U10 | exact U11 | exact U12 | exact U13 | exact U14 | exact U15 | exact U16 | exact U17 | exact U18 | exact U19 | exact U20 | exact U21 | exact U22 | exact U23) (by rfl) ?_)
  refine SPL_nil ?_
  refine thenP_n ?_
  refine SP_seq ?_
  refine SP_draw 999 [(0, 0), (1, 0), (2, 0), (4, 0), (5, 0), (6, 0), (3, 1), (7, 1), (8, 0), (9, 0)] mixed (by kernel_rfl) (fun _ _ _ _ _ h => h) (Part.refl _) ?_
  refine SPO_p rfl (y_move rfl) rfl ?_
  refine SPO_p rfl (y_nil rfl) rfl ?_
  refine SPO_p rfl (y_fa fld_164_0 rfl) rfl ?_
  refine SPO_p rfl (y_move rfl) rfl ?_
  refine SPO_p rfl (y_nil rfl) rfl ?_
  refine SPO_p rfl (y_fa fld_164_2 rfl) rfl ?_
  refine SPO_h rfl (y_load Tryz.isAgg9 rfl (by repeat (first | exact row_cell (q := 0) rfl | apply Cell.tail))) rfl ?_
  refine SPO_h rfl (y_load Tryz.isAgg9 rfl (by repeat (first | exact row_cell (q := 2) rfl | apply Cell.tail))) rfl ?_
  refine SPO_p rfl (y_cat rfl rfl (by first | omega | (simp; omega))) rfl ?_
  refine SPO_p rfl (y_assign rfl) rfl ?_
  refine SPO_nil ?_
  refine thenP_n ?_
  refine SP_seq ?_
  refine SP_seq ?_
  refine SP_region ?_
  refine SPL_y (y_fa fld_87_0 rfl) rfl ?_
  refine SPL_y (y_load Tryz.isAgg3 rfl (by repeat (first | exact Cell.head rfl | apply Cell.tail))) rfl ?_
  refine SPL_nil ?_
  refine thenP_n ?_
  refine SP_block ?_
  refine SP_seq ?_
  refine SP_seq ?_
  refine SP_region ?_
  refine SPL_y (y_eqlF rfl rfl (by omega)) rfl ?_
  refine SPL_y (y_assign rfl) rfl ?_
  refine SPL_nil ?_
  refine thenP_n ?_
  refine SP_cond_f rfl ?_
  refine SP_seq ?_
  refine SP_region ?_
  refine SPL_y (y_eqlF rfl rfl (by omega)) rfl ?_
  refine SPL_y (y_assign rfl) rfl ?_
  refine SPL_nil ?_
  refine thenP_n ?_
  refine SP_cond_f rfl ?_
  refine SP_region ?_
  refine SPL_y (y_eqlF rfl rfl (by omega)) rfl ?_
  refine SPL_y (y_assign rfl) rfl ?_
  refine SPL_nil ?_
  refine thenP_n ?_
  refine SP_cond_f rfl ?_
  refine SP_seq ?_
  refine SP_region ?_
  refine SPL_y (y_eqlF rfl rfl (by omega)) rfl ?_
  refine SPL_y (y_assign rfl) rfl ?_
  refine SPL_nil ?_
  refine thenP_n ?_
  refine SP_cond_f rfl ?_
  refine SP_seq ?_
  refine SP_region ?_
  refine SPL_y (y_eqlF rfl rfl (by omega)) rfl ?_
  refine SPL_y (y_assign rfl) rfl ?_
  refine SPL_nil ?_
  refine thenP_n ?_
  refine SP_cond_f rfl ?_
  refine SP_seq ?_
  refine SP_seq ?_
  refine SP_region ?_
  refine SPL_y (y_eqlF rfl rfl (by omega)) rfl ?_
  refine SPL_y (y_assign rfl) rfl ?_
  refine SPL_nil ?_
  refine thenP_n ?_
  refine SP_cond_f rfl ?_
  refine SP_region ?_
  refine SPL_y (y_eqlF rfl rfl (by omega)) rfl ?_
  refine SPL_y (y_assign rfl) rfl ?_
  refine SPL_nil ?_
  refine thenP_n ?_
  refine SP_cond_f rfl ?_
  refine SP_seq ?_
  refine SP_region ?_
  refine SPL_y (y_eqlF rfl rfl (by omega)) rfl ?_
  refine SPL_y (y_assign rfl) rfl ?_
  refine SPL_nil ?_
  refine thenP_n ?_
  refine SP_cond_f rfl ?_
  refine SP_seq ?_
  refine SP_region ?_
  refine SPL_y (y_eqlF rfl rfl (by omega)) rfl ?_
  refine SPL_y (y_assign rfl) rfl ?_
  refine SPL_nil ?_
  refine thenP_n ?_
  refine SP_cond_f rfl ?_
  refine SP_seq ?_
  refine SP_region ?_
  refine SPL_y (y_eqlF rfl rfl (by omega)) rfl ?_
  refine SPL_y (y_assign rfl) rfl ?_
  refine SPL_nil ?_
  refine thenP_n ?_
  refine SP_cond_f rfl ?_
  refine SP_seq ?_
  refine SP_region ?_
  refine SPL_y (y_eqlF rfl rfl (by omega)) rfl ?_
  refine SPL_y (y_assign rfl) rfl ?_
  refine SPL_nil ?_
  refine thenP_n ?_
  refine SP_cond_f rfl ?_
  refine SP_seq ?_
  refine SP_region ?_
  refine SPL_y (y_eqlT rfl rfl hop) rfl ?_
  refine SPL_y (y_assign rfl) rfl ?_
  refine SPL_nil ?_
  refine thenP_n ?_
  refine SP_cond_t rfl ?_
  refine SP_region ?_
  refine SPL_y (y_move rfl) rfl ?_
  refine SPL_one rfl (SP1_call (pm_pop k K s 0 hm hK) Tryz.call102 rfl rfl (by repeat (first | exact Part.nil _ | (apply Part.cons; (first | exact P0 | exact P1 | exact P2 | exact P3 | exact P4 | exact P5 | exact P6 | exact P7 | exact P8 | exact P9 | exact P10 | exact P11 | exact P12 | exact P13 | exact P14 | exact P15 | exact P16 | exact P17 | exact P18 | exact P19 | exact P20 | exact P21 | exact P22 | exact P23)) | (apply Part.flat; simp only [List.cons_append, List.nil_append]) | (apply Part.nilc))) ?_)
  rintro v post H' ⟨s1, rfl, rfl, hm1⟩ hH
  try simp only [List.cons_append, List.nil_append] at hH
  subst hH
  refine SPL_y (y_move rfl) rfl ?_
  refine SPL_y (y_ext rfl rfl) rfl ?_
  refine SPL_y (y_ext rfl rfl) rfl ?_
  refine SPL_y (y_assign rfl) rfl ?_
  refine SPL_nil ?_
  refine inBlockP_n ?_
  refine thenP_n ?_
  refine SP_seq ?_
  refine SP_draw 7 [(0, 0), (1, 0), (2, 0), (3, 0), (4, 1), (5, 1), (6, 2), (7, 3), (8, 0), (9, 0), (10, 3)] mixed (by kernel_rfl) (fun _ _ _ _ _ h => h) (Part.refl _) ?_
  refine SPO_p rfl (y_move rfl) rfl ?_
  refine SPO_p rfl (y_move rfl) rfl ?_
  refine SPO_p rfl (y_nil rfl) rfl ?_
  refine SPO_p rfl (y_fa fld_164_4 rfl) rfl ?_
  refine SPO_h rfl (y_load Tryz.isAgg106 rfl (by repeat (first | exact row_cell (q := 4) rfl | apply Cell.tail))) rfl ?_
  refine SPO_h rfl (y_loads Tryz.isAgg181 Tryz.sizeOf181 rfl rfl (by repeat (first | exact Cells.all _ | exact Cells.head rfl | apply Cells.tail))) rfl ?_
  refine SPO_a rfl rfl (SP1_slice1 el_106 rfl rfl rfl rfl rfl ?_)
  intro b512
  refine ⟨⟨_, (by repeat (first | exact Part.nil _ | (apply Part.cons; (first | exact P0 | exact P1 | exact P2 | exact P3 | exact P4 | exact P5 | exact P6 | exact P7 | exact P8 | exact P9 | exact P10 | exact P11 | exact P12 | exact P13 | exact P14 | exact P15 | exact P16 | exact P17 | exact P18 | exact P19 | exact P20 | exact P21 | exact P22 | exact P23)) | (apply Part.flat; simp only [List.cons_append, List.nil_append]) | (apply Part.nilc)))⟩, ?_⟩
  refine SPO_z (k := 0) rfl rfl (SP1_append el_106 (.inl Tryz.underlying106) rfl rfl hcd (by first | exact P0 | exact P1 | exact P2 | exact P3 | exact P4 | exact P5 | exact P6 | exact P7 | exact P8 | exact P9 | exact P10 | exact P11 | exact P12 | exact P13 | exact P14 | exact P15 | exact P16 | exact P17 | exact P18 | exact P19 | exact P20 | exact P21 | exact P22 | exact P23) (Src.of (by repeat (first | exact Cells.all _ | exact Cells.head rfl | apply Cells.tail)) (by rfl)) (by rfl) (by omega) rfl ?_)
  intro ca1 cc1 cd1 hcd1
  refine SPO_p rfl (y_nil rfl) rfl ?_
  refine SPO_p rfl (y_fa fld_164_4 rfl) rfl ?_
  refine SPO_z (k := 0) rfl rfl (SP1_store Tryz.sizeOf106 rfl rfl rfl (by first | exact U0 | exact U1 | exact U2 | exact U3 | exact U4 | exact U5 | exact U6 | exact U7 | exact U8 | exact U9 | exact U10 | exact U11 | exact U12 | exact U13 | exact U14 | exact U15 | exact U16 | exact U17 | exact U18 | exact U19 | exact U20 | exact U21 | exact U22 | exact U23) (row_ble (r := rowM u (some ⟨bs, 0, none⟩) sc ca code.length cc) (q := 4) (show 4 < 5 by decide)) ?_)
  rw [row_set (r := rowM u (some ⟨bs, 0, none⟩) sc ca code.length cc) (q := 4) (show 4 < 5 by decide)]
  refine SPO_nil ?_
  refine thenP_n ?_
  refine SP_seq ?_
  refine SP_region ?_
  refine SPL_y (y_move rfl) rfl ?_
  refine SPL_one rfl (SP1_call (pm_typed _) Tryz.call95 rfl rfl (by repeat (first | exact Part.nil _ | (apply Part.cons; (first | exact P0 | exact P1 | exact P2 | exact P3 | exact P4 | exact P5 | exact P6 | exact P7 | exact P8 | exact P9 | exact P10 | exact P11 | exact P12 | exact P13 | exact P14 | exact P15 | exact P16 | exact P17 | exact P18 | exact P19 | exact P20 | exact P21 | exact P22 | exact P23)) | (apply Part.flat; simp only [List.cons_append, List.nil_append]) | (apply Part.nilc))) ?_)
  rintro v post H' ⟨rfl, rfl⟩ hH
  try simp only [List.cons_append, List.nil_append] at hH
  subst hH
  refine SPL_y (y_assign rfl) rfl ?_
  refine SPL_nil ?_
  refine thenP_n ?_
  refine SP_ret ?_
  refine bodyP_ret (H' := [blk pb 159 [nv, mnv, mxv, stv, .slice (some ⟨bf, 0, none⟩) fs.length fc], blk bf 164 (la ++ rowM u (some ⟨bs, 0, none⟩) sc ca1 (code.length + 1) cc1 ++ lb ++ sp), s1, blk bs 87 (codeV u.src ++ sps), cd1]) (Res1 rfl rfl) (by repeat (first | exact Part.nil _ | (apply Part.cons; (first | exact P0 | exact P1 | exact P2 | exact P3 | exact P4 | exact P5 | exact P6 | exact P7 | exact P8 | exact P9 | exact P10 | exact P11 | exact P12 | exact P13 | exact P14 | exact P15 | exact P16 | exact P17 | exact P18 | exact P19 | exact P20 | exact P21 | exact P22 | exact P23)) | (apply Part.flat; simp only [List.cons_append, List.nil_append]) | (apply Part.nilc))) ?_
  have e : oneM fs u code K i c = ((popM K 0).1, code ++ [⟨c.op, c.imm, 0, 0⟩], typedM (popM K 0).2.2) := oneM_plain (by omega) (by unfold plainM; rw [if_neg (by omega), if_neg (by omega), if_neg (by omega), if_pos hop]) (typedM_ne _)
  rw [e]
  refine ⟨ca1, cc1, cd1, s1, rfl, ?_, hm1, ?_⟩
  · simp
  · exact snocF hcd1

set_option maxHeartbeats 4000000 in
theorem pm_one_call (pb k bf : Nat) (nv mnv mxv stv : Value) (fc : Nat) (fs : List Fm) (u : Fm) (la lb sp : List Value) (sa : Option Addr) (sc : Nat) (ca : Option Addr) (cc : Nat) (code : List Flat) (sv cd : Seg) (K : Km) (s : Seg) (i : Nat) (c : Ins)
    (hi : i < u.src.length) (hci : u.src[i] = c) (hs : Arr 87 3 sa u.src.length sc (codeV u.src) sv) (hcd : Arr 181 4 ca code.length cc (code.flatMap flatV) cd) (hm : isKm k K s) (hK : KB K) (hL : LabOk K u.src)
    (hsl : u.src.length ≤ 1000) (htab : ∀ c, c ∈ u.src → c.tab.length ≤ 5) (hcl : code.length ≤ 100000) (hpl : u.params.length ≤ 100 ∧ u.results.length ≤ 100 ∧ u.locals.length ≤ 100)
    (hfs : ∀ (g : Nat) (f : Fm), fs[g]? = some f → (la ++ rowM u sa sc ca code.length cc ++ lb)[g * 5]? = some (S f.params) ∧ (la ++ rowM u sa sc ca code.length cc ++ lb)[g * 5 + 1]? = some (S f.results) ∧ f.params.length ≤ 100 ∧ f.results.length ≤ 100) (hfl : fs.length ≤ 1000) (hw : well c = true) (hop : c.op = 10) : Spec Tryz.prog 73 [.pointer (some ⟨pb, 0, none⟩), .pointer (some ⟨k, 0, none⟩), .pointer (some ⟨bf, la.length, none⟩), I i] [blk pb 159 [nv, mnv, mxv, stv, .slice (some ⟨bf, 0, none⟩) fs.length fc], blk bf 164 (la ++ rowM u sa sc ca code.length cc ++ lb ++ sp), s, sv, cd] (Ret fun v H => ∃ ca' cc' cd' s', v = I (oneM fs u code K i c).2.2 ∧ H = [blk pb 159 [nv, mnv, mxv, stv, .slice (some ⟨bf, 0, none⟩) fs.length fc], blk bf 164 (la ++ rowM u sa sc ca' (oneM fs u code K i c).2.1.length cc' ++ lb ++ sp), s', sv, cd'] ∧ isKm k (oneM fs u code K i c).1 s' ∧ Arr 181 4 ca' (oneM fs u code K i c).2.1.length cc' ((oneM fs u code K i c).2.1.flatMap flatV) cd') := by
  have hp := hK.pos
  have hz1 := hK.st
  have hz2 := hK.cs
  have hwg := (well_ge hw).1 (by omega)
  refine Spec_enter Tryz.func73 rfl Tryz.ntmps73 rfl ?_
  show SP _ _ _ _ _ [(0, _), (1, _), (2, _), (3, _)] _
  refine SP_seq ?_
  refine SP_region ?_
  refine SPL_y (y_assign rfl) rfl ?_
  refine SPL_nil ?_
  refine thenP_n ?_
  refine SP_seq ?_
  obtain ⟨bs, sps, rfl, hsc, hsps, rfl⟩ := hs.row (by omega)
  refine SP_region ?_
  refine SPL_y (y_move rfl) rfl ?_
  refine SPL_y (y_nil rfl) rfl ?_
  refine SPL_y (y_fa fld_164_3 rfl) rfl ?_
  refine SPL_y (y_load Tryz.isAgg34 rfl (by repeat (first | exact row_cell (q := 3) rfl | apply Cell.tail))) rfl ?_
  refine SPL_y (y_move rfl) rfl ?_
  refine SPL_y (y_ia Tryz.underlying34 Tryz.sizeOf87 rfl rfl (by omega)) rfl ?_
  refine SPL_y (y_loads Tryz.isAgg87 Tryz.sizeOf87 rfl rfl (by repeat (first | exact flat_cellsE insV_len (i := i) rfl hi hci | apply Cells.tail))) rfl ?_
  refine SPL_one rfl (SP1_alloc Tryz.zeroValue87 rfl rfl ?_)
  intro b9
  refine SPL_one rfl (SP1_storeAll Tryz.sizeOf87 rfl rfl rfl rfl rfl (by first | exact U0 | exact U1 | exact U2 | exact U3 | exact U4 | exact U5 | exact U6 | exact U7 | exact U8 | exact U9 | exact U10 | exact U11 | exact U12 | exact U13 | exact U14 | exact U15 | exact U16 | exact U17 | exact U18 | exact U19 | exact U20 | exact U21 | exact U22 | exact U23) (by rfl) ?_)
  refine SPL_y (y_assign rfl) rfl ?_
  refine SPL_nil ?_
  refine thenP_n ?_
  refine SP_seq ?_
  refine SP_region ?_
  refine SPL_y (y_fa fld_87_0 rfl) rfl ?_
  refine SPL_y (y_load Tryz.isAgg3 rfl (by repeat (first | exact Cell.head rfl | apply Cell.tail))) rfl ?_
  refine SPL_y (y_fa fld_87_1 rfl) rfl ?_
  refine SPL_y (y_load Tryz.isAgg3 rfl (by repeat (first | exact Cell.head rfl | apply Cell.tail))) rfl ?_
  refine SPL_y (y_build B181 rfl rfl (by simp only [fillL, List.foldl_cons, List.foldl_nil, List.set_cons_zero, List.set_cons_succ]; exact rfl)) rfl ?_
  refine SPL_one rfl (SP1_alloc Tryz.zeroValue181 rfl rfl ?_)
  intro b11
  refine SPL_one rfl (SP1_storeAll Tryz.sizeOf181 rfl rfl rfl rfl rfl (by first | exact U0 | exact U1 | exact U2 | exact U3 | exact U4 | exact U5 | exact U6 | exact U7 | exact U8 | exact U9 | exact U10 | exact U11 | exact U12 | exact U13 | exact U14 | exact U15 | exact U16 | exact U17 | exact U18 | exact U19 | exact U20 | exact U21 | exact U22 | exact U23) (by rfl) ?_)
  refine SPL_nil ?_
  refine thenP_n ?_
  refine SP_seq ?_
  refine SP_draw 999 [(0, 0), (1, 0), (2, 0), (4, 0), (5, 0), (6, 0), (3, 1), (7, 1), (8, 0), (9, 0)] mixed (by kernel_rfl) (fun _ _ _ _ _ h => h) (Part.refl _) ?_
  refine SPO_p rfl (y_move rfl) rfl ?_
  refine SPO_p rfl (y_nil rfl) rfl ?_
  refine SPO_p rfl (y_fa fld_164_0 rfl) rfl ?_
  refine SPO_p rfl (y_move rfl) rfl ?_
  refine SPO_p rfl (y_nil rfl) rfl ?_
  refine SPO_p rfl (y_fa fld_164_2 rfl) rfl ?_
  refine SPO_h rfl (y_load Tryz.isAgg9 rfl (by repeat (first | exact row_cell (q := 0) rfl | apply Cell.tail))) rfl ?_
  refine SPO_h rfl (y_load Tryz.isAgg9 rfl (by repeat (first | exact row_cell (q := 2) rfl | apply Cell.tail))) rfl ?_
  refine SPO_p rfl (y_cat rfl rfl (by first | omega | (simp; omega))) rfl ?_
  refine SPO_p rfl (y_assign rfl) rfl ?_
  refine SPO_nil ?_
  refine thenP_n ?_
  refine SP_seq ?_
  refine SP_seq ?_
  refine SP_region ?_
  refine SPL_y (y_fa fld_87_0 rfl) rfl ?_
  refine SPL_y (y_load Tryz.isAgg3 rfl (by repeat (first | exact Cell.head rfl | apply Cell.tail))) rfl ?_
  refine SPL_nil ?_
  refine thenP_n ?_
  refine SP_block ?_
  refine SP_seq ?_
  refine SP_seq ?_
  refine SP_region ?_
  refine SPL_y (y_eqlF rfl rfl (by omega)) rfl ?_
  refine SPL_y (y_assign rfl) rfl ?_
  refine SPL_nil ?_
  refine thenP_n ?_
  refine SP_cond_f rfl ?_
  refine SP_seq ?_
  refine SP_region ?_
  refine SPL_y (y_eqlF rfl rfl (by omega)) rfl ?_
  refine SPL_y (y_assign rfl) rfl ?_
  refine SPL_nil ?_
  refine thenP_n ?_
  refine SP_cond_f rfl ?_
  refine SP_region ?_
  refine SPL_y (y_eqlF rfl rfl (by omega)) rfl ?_
  refine SPL_y (y_assign rfl) rfl ?_
  refine SPL_nil ?_
  refine thenP_n ?_
  refine SP_cond_f rfl ?_
  refine SP_seq ?_
  refine SP_region ?_
  refine SPL_y (y_eqlF rfl rfl (by omega)) rfl ?_
  refine SPL_y (y_assign rfl) rfl ?_
  refine SPL_nil ?_
  refine thenP_n ?_
  refine SP_cond_f rfl ?_
  refine SP_seq ?_
  refine SP_region ?_
  refine SPL_y (y_eqlF rfl rfl (by omega)) rfl ?_
  refine SPL_y (y_assign rfl) rfl ?_
  refine SPL_nil ?_
  refine thenP_n ?_
  refine SP_cond_f rfl ?_
  refine SP_seq ?_
  refine SP_seq ?_
  refine SP_region ?_
  refine SPL_y (y_eqlF rfl rfl (by omega)) rfl ?_
  refine SPL_y (y_assign rfl) rfl ?_
  refine SPL_nil ?_
  refine thenP_n ?_
  refine SP_cond_f rfl ?_
  refine SP_region ?_
  refine SPL_y (y_eqlF rfl rfl (by omega)) rfl ?_
  refine SPL_y (y_assign rfl) rfl ?_
  refine SPL_nil ?_
  refine thenP_n ?_
  refine SP_cond_f rfl ?_
  refine SP_seq ?_
  refine SP_region ?_
  refine SPL_y (y_eqlF rfl rfl (by omega)) rfl ?_
  refine SPL_y (y_assign rfl) rfl ?_
  refine SPL_nil ?_
  refine thenP_n ?_
  refine SP_cond_f rfl ?_
  refine SP_seq ?_
  refine SP_region ?_
  refine SPL_y (y_eqlF rfl rfl (by omega)) rfl ?_
  refine SPL_y (y_assign rfl) rfl ?_
  refine SPL_nil ?_
  refine thenP_n ?_
  refine SP_cond_f rfl ?_
  refine SP_seq ?_
  refine SP_region ?_
  refine SPL_y (y_eqlF rfl rfl (by omega)) rfl ?_
  refine SPL_y (y_assign rfl) rfl ?_
  refine SPL_nil ?_
  refine thenP_n ?_
  refine SP_cond_f rfl ?_
  refine SP_seq ?_
  refine SP_region ?_
  refine SPL_y (y_eqlT rfl rfl hop) rfl ?_
  refine SPL_y (y_assign rfl) rfl ?_
  refine SPL_nil ?_
  refine thenP_n ?_
  refine SP_cond_t rfl ?_
  refine SP_seq ?_
  refine SP_seq ?_
  refine SP_draw 999 [(0, 0), (2, 0), (3, 0), (4, 0), (1, 1), (5, 1), (6, 0), (7, 0)] mixed (by kernel_rfl) (fun _ _ _ _ _ h => h) (Part.refl _) ?_
  refine SPO_p rfl (y_fa fld_87_1 rfl) rfl ?_
  refine SPO_p rfl (y_move rfl) rfl ?_
  refine SPO_p rfl (y_nil rfl) rfl ?_
  refine SPO_p rfl (y_fa fld_159_4 rfl) rfl ?_
  refine SPO_h rfl (y_load Tryz.isAgg3 rfl (by repeat (first | exact Cell.head rfl | apply Cell.tail))) rfl ?_
  refine SPO_h rfl (y_load Tryz.isAgg157 rfl (by repeat (first | exact Cell.head rfl | apply Cell.tail))) rfl ?_
  refine SPO_p rfl (y_len_l Tryz.underlying157 rfl) rfl ?_
  refine SPO_if rfl (y_geq rfl rfl) rfl ?_ ?_
  · intro h71_7
    refine SPO_nil ?_
    refine thenP_n ?_
    refine SP_cond_t rfl ?_
    refine SP_seq ?_
    refine SP_region ?_
    refine SPL_y (y_assign rfl) rfl ?_
    refine SPL_nil ?_
    refine thenP_n ?_
    refine SP_ret ?_
    refine thenP_ret (inBlockP_ret (thenP_ret (bodyP_ret (H' := [blk pb 159 [nv, mnv, mxv, stv, .slice (some ⟨bf, 0, none⟩) fs.length fc], blk bf 164 (la ++ rowM u (some ⟨bs, 0, none⟩) sc ca code.length cc ++ lb ++ sp), s, blk bs 87 (codeV u.src ++ sps), cd]) (Res1 rfl rfl) (by repeat (first | exact Part.nil _ | (apply Part.cons; (first | exact P0 | exact P1 | exact P2 | exact P3 | exact P4 | exact P5 | exact P6 | exact P7 | exact P8 | exact P9 | exact P10 | exact P11 | exact P12 | exact P13 | exact P14 | exact P15 | exact P16 | exact P17 | exact P18 | exact P19 | exact P20 | exact P21 | exact P22 | exact P23)) | (apply Part.flat; simp only [List.cons_append, List.nil_append]) | (apply Part.nilc))) ?_)))
    have e : oneM fs u code K i c = (K, code, 5) := oneM_plain5 (by omega) (by unfold plainM; rw [if_neg (by omega), if_neg (by omega), if_pos hop, if_pos (by omega)])
    rw [e]
    exact ⟨ca, cc, cd, s, rfl, rfl, hm, hcd⟩
  intro h71_7
  refine SPO_nil ?_
  refine thenP_n ?_
  refine SP_cond_f rfl ?_
  refine SP_skip ?_
  refine thenP_n ?_
  obtain ⟨f, hf⟩ : ∃ f, fs[c.imm.toNat]? = some f := ⟨_, List.getElem?_eq_getElem (by omega)⟩
  obtain ⟨hf1, hf2, hf3, hf4⟩ := hfs _ f hf
  refine SP_draw 19 [(0, 0), (1, 0), (2, 0), (3, 0), (5, 0), (10, 0), (11, 0), (12, 0), (14, 0), (4, 1), (6, 1), (7, 0), (8, 0), (9, 1), (13, 1), (15, 1), (16, 0), (17, 0), (18, 1), (19, 3), (20, 0)] mixed (by kernel_rfl) (fun _ _ _ _ _ h => h) (Part.refl _) ?_
  refine SPO_p rfl (y_move rfl) rfl ?_
  refine SPO_p rfl (y_move rfl) rfl ?_
  refine SPO_p rfl (y_nil rfl) rfl ?_
  refine SPO_p rfl (y_fa fld_159_4 rfl) rfl ?_
  refine SPO_p rfl (y_fa fld_87_1 rfl) rfl ?_
  refine SPO_p rfl (y_move rfl) rfl ?_
  refine SPO_p rfl (y_nil rfl) rfl ?_
  refine SPO_p rfl (y_fa fld_159_4 rfl) rfl ?_
  refine SPO_p rfl (y_fa fld_87_1 rfl) rfl ?_
  refine SPO_h rfl (y_load Tryz.isAgg157 rfl (by repeat (first | exact Cell.head rfl | apply Cell.tail))) rfl ?_
  refine SPO_h rfl (y_load Tryz.isAgg3 rfl (by repeat (first | exact Cell.head rfl | apply Cell.tail))) rfl ?_
  refine SPO_p rfl (y_ia Tryz.underlying157 Tryz.sizeOf164 rfl rfl (by omega)) rfl ?_
  refine SPO_p rfl (y_fa fld_164_0 rfl) rfl ?_
  refine SPO_h rfl (y_load Tryz.isAgg9 rfl (by repeat (first | exact row_cellx (show _ = _ by rw [Nat.zero_add, Nat.add_zero]; exact hf1) | apply Cell.tail))) rfl ?_
  refine SPO_h rfl (y_load Tryz.isAgg157 rfl (by repeat (first | exact Cell.head rfl | apply Cell.tail))) rfl ?_
  refine SPO_h rfl (y_load Tryz.isAgg3 rfl (by repeat (first | exact Cell.head rfl | apply Cell.tail))) rfl ?_
  refine SPO_p rfl (y_ia Tryz.underlying157 Tryz.sizeOf164 rfl rfl (by omega)) rfl ?_
  refine SPO_p rfl (y_fa fld_164_1 rfl) rfl ?_
  refine SPO_h rfl (y_load Tryz.isAgg9 rfl (by repeat (first | exact row_cellx (show _ = _ by rw [Nat.zero_add]; exact hf2) | apply Cell.tail))) rfl ?_
  refine SPO_z (k := 0) rfl rfl (SP1_call (pm_swap k K s f.params f.results hm hK (by omega) (by omega)) Tryz.call100 rfl rfl (by repeat (first | exact Part.nil _ | (apply Part.cons; (first | exact P0 | exact P1 | exact P2 | exact P3 | exact P4 | exact P5 | exact P6 | exact P7 | exact P8 | exact P9 | exact P10 | exact P11 | exact P12 | exact P13 | exact P14 | exact P15 | exact P16 | exact P17 | exact P18 | exact P19 | exact P20 | exact P21 | exact P22 | exact P23)) | (apply Part.flat; simp only [List.cons_append, List.nil_append]) | (apply Part.nilc))) ?_)
  rintro v post H' ⟨s1, rfl, rfl, hm1⟩ hH
  try simp only [List.cons_append, List.nil_append] at hH
  subst hH
  refine SPO_p rfl (y_assign rfl) rfl ?_
  refine SPO_nil ?_
  refine inBlockP_n ?_
  refine thenP_n ?_
  refine SP_seq ?_
  refine SP_draw 7 [(0, 0), (1, 0), (2, 0), (3, 0), (4, 1), (5, 1), (6, 2), (7, 3), (8, 0), (9, 0), (10, 3)] mixed (by kernel_rfl) (fun _ _ _ _ _ h => h) (Part.refl _) ?_
  refine SPO_p rfl (y_move rfl) rfl ?_
  refine SPO_p rfl (y_move rfl) rfl ?_
  refine SPO_p rfl (y_nil rfl) rfl ?_
  refine SPO_p rfl (y_fa fld_164_4 rfl) rfl ?_
  refine SPO_h rfl (y_load Tryz.isAgg106 rfl (by repeat (first | exact row_cell (q := 4) rfl | apply Cell.tail))) rfl ?_
  refine SPO_h rfl (y_loads Tryz.isAgg181 Tryz.sizeOf181 rfl rfl (by repeat (first | exact Cells.all _ | exact Cells.head rfl | apply Cells.tail))) rfl ?_
  refine SPO_a rfl rfl (SP1_slice1 el_106 rfl rfl rfl rfl rfl ?_)
  intro b512
  refine ⟨⟨_, (by repeat (first | exact Part.nil _ | (apply Part.cons; (first | exact P0 | exact P1 | exact P2 | exact P3 | exact P4 | exact P5 | exact P6 | exact P7 | exact P8 | exact P9 | exact P10 | exact P11 | exact P12 | exact P13 | exact P14 | exact P15 | exact P16 | exact P17 | exact P18 | exact P19 | exact P20 | exact P21 | exact P22 | exact P23)) | (apply Part.flat; simp only [List.cons_append, List.nil_append]) | (apply Part.nilc)))⟩, ?_⟩
  refine SPO_z (k := 0) rfl rfl (SP1_append el_106 (.inl Tryz.underlying106) rfl rfl hcd (by first | exact P0 | exact P1 | exact P2 | exact P3 | exact P4 | exact P5 | exact P6 | exact P7 | exact P8 | exact P9 | exact P10 | exact P11 | exact P12 | exact P13 | exact P14 | exact P15 | exact P16 | exact P17 | exact P18 | exact P19 | exact P20 | exact P21 | exact P22 | exact P23) (Src.of (by repeat (first | exact Cells.all _ | exact Cells.head rfl | apply Cells.tail)) (by rfl)) (by rfl) (by omega) rfl ?_)
  intro ca1 cc1 cd1 hcd1
  refine SPO_p rfl (y_nil rfl) rfl ?_
  refine SPO_p rfl (y_fa fld_164_4 rfl) rfl ?_
  refine SPO_z (k := 0) rfl rfl (SP1_store Tryz.sizeOf106 rfl rfl rfl (by first | exact U0 | exact U1 | exact U2 | exact U3 | exact U4 | exact U5 | exact U6 | exact U7 | exact U8 | exact U9 | exact U10 | exact U11 | exact U12 | exact U13 | exact U14 | exact U15 | exact U16 | exact U17 | exact U18 | exact U19 | exact U20 | exact U21 | exact U22 | exact U23) (row_ble (r := rowM u (some ⟨bs, 0, none⟩) sc ca code.length cc) (q := 4) (show 4 < 5 by decide)) ?_)
  rw [row_set (r := rowM u (some ⟨bs, 0, none⟩) sc ca code.length cc) (q := 4) (show 4 < 5 by decide)]
  refine SPO_nil ?_
  refine thenP_n ?_
  refine SP_seq ?_
  refine SP_region ?_
  refine SPL_y (y_move rfl) rfl ?_
  refine SPL_one rfl (SP1_call (pm_typed _) Tryz.call95 rfl rfl (by repeat (first | exact Part.nil _ | (apply Part.cons; (first | exact P0 | exact P1 | exact P2 | exact P3 | exact P4 | exact P5 | exact P6 | exact P7 | exact P8 | exact P9 | exact P10 | exact P11 | exact P12 | exact P13 | exact P14 | exact P15 | exact P16 | exact P17 | exact P18 | exact P19 | exact P20 | exact P21 | exact P22 | exact P23)) | (apply Part.flat; simp only [List.cons_append, List.nil_append]) | (apply Part.nilc))) ?_)
  rintro v post H' ⟨rfl, rfl⟩ hH
  try simp only [List.cons_append, List.nil_append] at hH
  subst hH
  refine SPL_y (y_assign rfl) rfl ?_
  refine SPL_nil ?_
  refine thenP_n ?_
  refine SP_ret ?_
  refine bodyP_ret (H' := [blk pb 159 [nv, mnv, mxv, stv, .slice (some ⟨bf, 0, none⟩) fs.length fc], blk bf 164 (la ++ rowM u (some ⟨bs, 0, none⟩) sc ca1 (code.length + 1) cc1 ++ lb ++ sp), s1, blk bs 87 (codeV u.src ++ sps), cd1]) (Res1 rfl rfl) (by repeat (first | exact Part.nil _ | (apply Part.cons; (first | exact P0 | exact P1 | exact P2 | exact P3 | exact P4 | exact P5 | exact P6 | exact P7 | exact P8 | exact P9 | exact P10 | exact P11 | exact P12 | exact P13 | exact P14 | exact P15 | exact P16 | exact P17 | exact P18 | exact P19 | exact P20 | exact P21 | exact P22 | exact P23)) | (apply Part.flat; simp only [List.cons_append, List.nil_append]) | (apply Part.nilc))) ?_
  have e : oneM fs u code K i c = ((swapM K f.params f.results).1, code ++ [⟨c.op, c.imm, 0, 0⟩], typedM (swapM K f.params f.results).2) := oneM_plain (by omega) (by unfold plainM; rw [if_neg (by omega), if_neg (by omega), if_pos hop, if_neg (by omega), hf]) (typedM_ne _)
  rw [e]
  refine ⟨ca1, cc1, cd1, s1, rfl, ?_, hm1, ?_⟩
  · simp
  · exact snocF hcd1

theorem byte1 {K : Km} {a : Option Addr} {c : Nat} {t : UInt8} {s : Seg} (h : Arr 5 1 a (K.st.length + 1) c (bytesV K.st ++ [.int .u8 t.toNat]) s) : Arr 5 1 a (K.st ++ [t]).length c (bytesV (K.st ++ [t])) s := by
  rw [bytesV_append, List.length_append]; exact h
theorem len1 {K : Km} {t : UInt8} : (K.st ++ [t]).length = K.st.length + 1 := by simp

set_option maxHeartbeats 4000000 in
theorem pm_one_get (pb k bf : Nat) (nv mnv mxv stv : Value) (fc : Nat) (fs : List Fm) (u : Fm) (la lb sp : List Value) (sa : Option Addr) (sc : Nat) (ca : Option Addr) (cc : Nat) (code : List Flat) (sv cd : Seg) (K : Km) (s : Seg) (i : Nat) (c : Ins)
    (hi : i < u.src.length) (hci : u.src[i] = c) (hs : Arr 87 3 sa u.src.length sc (codeV u.src) sv) (hcd : Arr 181 4 ca code.length cc (code.flatMap flatV) cd) (hm : isKm k K s) (hK : KB K) (hL : LabOk K u.src)
    (hsl : u.src.length ≤ 1000) (htab : ∀ c, c ∈ u.src → c.tab.length ≤ 5) (hcl : code.length ≤ 100000) (hpl : u.params.length ≤ 100 ∧ u.results.length ≤ 100 ∧ u.locals.length ≤ 100)
    (hfs : ∀ (g : Nat) (f : Fm), fs[g]? = some f → (la ++ rowM u sa sc ca code.length cc ++ lb)[g * 5]? = some (S f.params) ∧ (la ++ rowM u sa sc ca code.length cc ++ lb)[g * 5 + 1]? = some (S f.results) ∧ f.params.length ≤ 100 ∧ f.results.length ≤ 100) (hfl : fs.length ≤ 1000) (hw : well c = true) (hop : c.op = 13) : Spec Tryz.prog 73 [.pointer (some ⟨pb, 0, none⟩), .pointer (some ⟨k, 0, none⟩), .pointer (some ⟨bf, la.length, none⟩), I i] [blk pb 159 [nv, mnv, mxv, stv, .slice (some ⟨bf, 0, none⟩) fs.length fc], blk bf 164 (la ++ rowM u sa sc ca code.length cc ++ lb ++ sp), s, sv, cd] (Ret fun v H => ∃ ca' cc' cd' s', v = I (oneM fs u code K i c).2.2 ∧ H = [blk pb 159 [nv, mnv, mxv, stv, .slice (some ⟨bf, 0, none⟩) fs.length fc], blk bf 164 (la ++ rowM u sa sc ca' (oneM fs u code K i c).2.1.length cc' ++ lb ++ sp), s', sv, cd'] ∧ isKm k (oneM fs u code K i c).1 s' ∧ Arr 181 4 ca' (oneM fs u code K i c).2.1.length cc' ((oneM fs u code K i c).2.1.flatMap flatV) cd') := by
  have hp := hK.pos
  have hz1 := hK.st
  have hz2 := hK.cs
  have hwg := (well_ge hw).1 (by omega)
  have hal : (u.params ++ u.locals).length = u.params.length + u.locals.length := List.length_append
  refine Spec_enter Tryz.func73 rfl Tryz.ntmps73 rfl ?_
  show SP _ _ _ _ _ [(0, _), (1, _), (2, _), (3, _)] _
  refine SP_seq ?_
  refine SP_region ?_
  refine SPL_y (y_assign rfl) rfl ?_
  refine SPL_nil ?_
  refine thenP_n ?_
  refine SP_seq ?_
  obtain ⟨bs, sps, rfl, hsc, hsps, rfl⟩ := hs.row (by omega)
  refine SP_region ?_
  refine SPL_y (y_move rfl) rfl ?_
  refine SPL_y (y_nil rfl) rfl ?_
  refine SPL_y (y_fa fld_164_3 rfl) rfl ?_
  refine SPL_y (y_load Tryz.isAgg34 rfl (by repeat (first | exact row_cell (q := 3) rfl | apply Cell.tail))) rfl ?_
  refine SPL_y (y_move rfl) rfl ?_
  refine SPL_y (y_ia Tryz.underlying34 Tryz.sizeOf87 rfl rfl (by omega)) rfl ?_
  refine SPL_y (y_loads Tryz.isAgg87 Tryz.sizeOf87 rfl rfl (by repeat (first | exact flat_cellsE insV_len (i := i) rfl hi hci | apply Cells.tail))) rfl ?_
  refine SPL_one rfl (SP1_alloc Tryz.zeroValue87 rfl rfl ?_)
  intro b9
  refine SPL_one rfl (SP1_storeAll Tryz.sizeOf87 rfl rfl rfl rfl rfl (by first | exact U0 | exact U1 | exact U2 | exact U3 | exact U4 | exact U5 | exact U6 | exact U7 | exact U8 | exact U9 | exact U10 | exact U11 | exact U12 | exact U13 | exact U14 | exact U15 | exact U16 | exact U17 | exact U18 | exact U19 | exact U20 | exact U21 | exact U22 | exact U23) (by rfl) ?_)
  refine SPL_y (y_assign rfl) rfl ?_
  refine SPL_nil ?_
  refine thenP_n ?_
  refine SP_seq ?_
  refine SP_region ?_
  refine SPL_y (y_fa fld_87_0 rfl) rfl ?_
  refine SPL_y (y_load Tryz.isAgg3 rfl (by repeat (first | exact Cell.head rfl | apply Cell.tail))) rfl ?_
  refine SPL_y (y_fa fld_87_1 rfl) rfl ?_
  refine SPL_y (y_load Tryz.isAgg3 rfl (by repeat (first | exact Cell.head rfl | apply Cell.tail))) rfl ?_
  refine SPL_y (y_build B181 rfl rfl (by simp only [fillL, List.foldl_cons, List.foldl_nil, List.set_cons_zero, List.set_cons_succ]; exact rfl)) rfl ?_
  refine SPL_one rfl (SP1_alloc Tryz.zeroValue181 rfl rfl ?_)
  intro b11
  refine SPL_one rfl (SP1_storeAll Tryz.sizeOf181 rfl rfl rfl rfl rfl (by first | exact U0 | exact U1 | exact U2 | exact U3 | exact U4 | exact U5 | exact U6 | exact U7 | exact U8 | exact U9 | exact U10 | exact U11 | exact U12 | exact U13 | exact U14 | exact U15 | exact U16 | exact U17 | exact U18 | exact U19 | exact U20 | exact U21 | exact U22 | exact U23) (by rfl) ?_)
  refine SPL_nil ?_
  refine thenP_n ?_
  refine SP_seq ?_
  refine SP_draw 999 [(0, 0), (1, 0), (2, 0), (4, 0), (5, 0), (6, 0), (3, 1), (7, 1), (8, 0), (9, 0)] mixed (by kernel_rfl) (fun _ _ _ _ _ h => h) (Part.refl _) ?_
  refine SPO_p rfl (y_move rfl) rfl ?_
  refine SPO_p rfl (y_nil rfl) rfl ?_
  refine SPO_p rfl (y_fa fld_164_0 rfl) rfl ?_
  refine SPO_p rfl (y_move rfl) rfl ?_
  refine SPO_p rfl (y_nil rfl) rfl ?_
  refine SPO_p rfl (y_fa fld_164_2 rfl) rfl ?_
  refine SPO_h rfl (y_load Tryz.isAgg9 rfl (by repeat (first | exact row_cell (q := 0) rfl | apply Cell.tail))) rfl ?_
  refine SPO_h rfl (y_load Tryz.isAgg9 rfl (by repeat (first | exact row_cell (q := 2) rfl | apply Cell.tail))) rfl ?_
  refine SPO_p rfl (y_cat rfl rfl (by first | omega | (simp; omega))) rfl ?_
  refine SPO_p rfl (y_assign rfl) rfl ?_
  refine SPO_nil ?_
  refine thenP_n ?_
  refine SP_seq ?_
  refine SP_seq ?_
  refine SP_region ?_
  refine SPL_y (y_fa fld_87_0 rfl) rfl ?_
  refine SPL_y (y_load Tryz.isAgg3 rfl (by repeat (first | exact Cell.head rfl | apply Cell.tail))) rfl ?_
  refine SPL_nil ?_
  refine thenP_n ?_
  refine SP_block ?_
  refine SP_seq ?_
  refine SP_seq ?_
  refine SP_region ?_
  refine SPL_y (y_eqlF rfl rfl (by omega)) rfl ?_
  refine SPL_y (y_assign rfl) rfl ?_
  refine SPL_nil ?_
  refine thenP_n ?_
  refine SP_cond_f rfl ?_
  refine SP_seq ?_
  refine SP_region ?_
  refine SPL_y (y_eqlF rfl rfl (by omega)) rfl ?_
  refine SPL_y (y_assign rfl) rfl ?_
  refine SPL_nil ?_
  refine thenP_n ?_
  refine SP_cond_f rfl ?_
  refine SP_region ?_
  refine SPL_y (y_eqlF rfl rfl (by omega)) rfl ?_
  refine SPL_y (y_assign rfl) rfl ?_
  refine SPL_nil ?_
  refine thenP_n ?_
  refine SP_cond_f rfl ?_
  refine SP_seq ?_
  refine SP_region ?_
  refine SPL_y (y_eqlF rfl rfl (by omega)) rfl ?_
  refine SPL_y (y_assign rfl) rfl ?_
  refine SPL_nil ?_
  refine thenP_n ?_
  refine SP_cond_f rfl ?_
  refine SP_seq ?_
  refine SP_region ?_
  refine SPL_y (y_eqlF rfl rfl (by omega)) rfl ?_
  refine SPL_y (y_assign rfl) rfl ?_
  refine SPL_nil ?_
  refine thenP_n ?_
  refine SP_cond_f rfl ?_
  refine SP_seq ?_
  refine SP_seq ?_
  refine SP_region ?_
  refine SPL_y (y_eqlF rfl rfl (by omega)) rfl ?_
  refine SPL_y (y_assign rfl) rfl ?_
  refine SPL_nil ?_
  refine thenP_n ?_
  refine SP_cond_f rfl ?_
  refine SP_region ?_
  refine SPL_y (y_eqlF rfl rfl (by omega)) rfl ?_
  refine SPL_y (y_assign rfl) rfl ?_
  refine SPL_nil ?_
  refine thenP_n ?_
  refine SP_cond_f rfl ?_
  refine SP_seq ?_
  refine SP_region ?_
  refine SPL_y (y_eqlF rfl rfl (by omega)) rfl ?_
  refine SPL_y (y_assign rfl) rfl ?_
  refine SPL_nil ?_
  refine thenP_n ?_
  refine SP_cond_f rfl ?_
  refine SP_seq ?_
  refine SP_region ?_
  refine SPL_y (y_eqlF rfl rfl (by omega)) rfl ?_
  refine SPL_y (y_assign rfl) rfl ?_
  refine SPL_nil ?_
  refine thenP_n ?_
  refine SP_cond_f rfl ?_
  refine SP_seq ?_
  refine SP_region ?_
  refine SPL_y (y_eqlF rfl rfl (by omega)) rfl ?_
  refine SPL_y (y_assign rfl) rfl ?_
  refine SPL_nil ?_
  refine thenP_n ?_
  refine SP_cond_f rfl ?_
  refine SP_seq ?_
  refine SP_region ?_
  refine SPL_y (y_eqlF rfl rfl (by omega)) rfl ?_
  refine SPL_y (y_assign rfl) rfl ?_
  refine SPL_nil ?_
  refine thenP_n ?_
  refine SP_cond_f rfl ?_
  refine SP_seq ?_
  refine SP_region ?_
  refine SPL_y (y_eqlF rfl rfl (by omega)) rfl ?_
  refine SPL_y (y_assign rfl) rfl ?_
  refine SPL_nil ?_
  refine thenP_n ?_
  refine SP_cond_f rfl ?_
  refine SP_seq ?_
  refine SP_region ?_
  refine SPL_y (y_eqlF rfl rfl (by omega)) rfl ?_
  refine SPL_y (y_assign rfl) rfl ?_
  refine SPL_nil ?_
  refine thenP_n ?_
  refine SP_cond_f rfl ?_
  refine SP_seq ?_
  refine SP_seq ?_
  refine SP_region ?_
  refine SPL_y (y_eqlT rfl rfl hop) rfl ?_
  refine SPL_y (y_assign rfl) rfl ?_
  refine SPL_nil ?_
  refine thenP_n ?_
  refine SP_cond_t rfl ?_
  refine SP_skip ?_
  refine thenP_n ?_
  refine SP_cond_t rfl ?_
  refine SP_seq ?_
  refine SP_seq ?_
  refine SP_region ?_
  refine SPL_y (y_fa fld_87_1 rfl) rfl ?_
  refine SPL_y (y_load Tryz.isAgg3 rfl (by repeat (first | exact Cell.head rfl | apply Cell.tail))) rfl ?_
  refine SPL_y (y_move rfl) rfl ?_
  refine SPL_y (y_len_s Tryz.underlying9 rfl) rfl ?_
  refine SPL_if (y_geq rfl rfl) rfl ?_ ?_
  · intro h84_4
    refine SPL_nil ?_
    refine thenP_n ?_
    refine SP_cond_t rfl ?_
    refine SP_seq ?_
    refine SP_region ?_
    refine SPL_y (y_assign rfl) rfl ?_
    refine SPL_nil ?_
    refine thenP_n ?_
    refine SP_ret ?_
    refine thenP_ret (inBlockP_ret (thenP_ret (bodyP_ret (H' := [blk pb 159 [nv, mnv, mxv, stv, .slice (some ⟨bf, 0, none⟩) fs.length fc], blk bf 164 (la ++ rowM u (some ⟨bs, 0, none⟩) sc ca code.length cc ++ lb ++ sp), s, blk bs 87 (codeV u.src ++ sps), cd]) (Res1 rfl rfl) (by repeat (first | exact Part.nil _ | (apply Part.cons; (first | exact P0 | exact P1 | exact P2 | exact P3 | exact P4 | exact P5 | exact P6 | exact P7 | exact P8 | exact P9 | exact P10 | exact P11 | exact P12 | exact P13 | exact P14 | exact P15 | exact P16 | exact P17 | exact P18 | exact P19 | exact P20 | exact P21 | exact P22 | exact P23)) | (apply Part.flat; simp only [List.cons_append, List.nil_append]) | (apply Part.nilc))) ?_)))
    have e : oneM fs u code K i c = (K, code, 5) := oneM_plain5 (by omega) (by unfold plainM; rw [if_neg (by omega), if_neg (by omega), if_neg (by omega), if_neg (by omega), if_neg (by omega), if_pos (by omega), if_pos (by omega)])
    rw [e]
    exact ⟨ca, cc, cd, s, rfl, rfl, hm, hcd⟩
  intro h84_4
  refine SPL_nil ?_
  refine thenP_n ?_
  refine SP_cond_f rfl ?_
  refine SP_skip ?_
  refine thenP_n ?_
  refine SP_seq ?_
  refine SP_region ?_
  refine SPL_y (y_fa fld_87_0 rfl) rfl ?_
  refine SPL_y (y_load Tryz.isAgg3 rfl (by repeat (first | exact Cell.head rfl | apply Cell.tail))) rfl ?_
  refine SPL_y (y_eqlT rfl rfl hop) rfl ?_
  refine SPL_nil ?_
  refine thenP_n ?_
  refine SP_cond_t rfl ?_
  obtain ⟨ta, tc, oa, oc, st, so, rfl, hst, hop_⟩ := hm
  refine SP_openAt [blk k 174 [.slice ta K.st.length tc, .slice oa K.cs.length oc], st, so] (by first | exact P0 | exact P1 | exact P2 | exact P3 | exact P4 | exact P5 | exact P6 | exact P7 | exact P8 | exact P9 | exact P10 | exact P11 | exact P12 | exact P13 | exact P14 | exact P15 | exact P16 | exact P17 | exact P18 | exact P19 | exact P20 | exact P21 | exact P22 | exact P23) ?_
  simp only [List.cons_append, List.nil_append]
  refine SP_draw 10 [(0, 0), (1, 0), (2, 0), (3, 0), (5, 0), (6, 0), (4, 1), (7, 1), (8, 0), (9, 2), (10, 3), (11, 0), (12, 0), (13, 3)] mixed (by kernel_rfl) (fun _ _ _ _ _ h => h) (Part.refl _) ?_
  refine SPO_p rfl (y_move rfl) rfl ?_
  refine SPO_p rfl (y_move rfl) rfl ?_
  refine SPO_p rfl (y_nil rfl) rfl ?_
  refine SPO_p rfl (y_fa fld_174_0 rfl) rfl ?_
  refine SPO_p rfl (y_move rfl) rfl ?_
  refine SPO_p rfl (y_fa fld_87_1 rfl) rfl ?_
  refine SPO_h rfl (y_load Tryz.isAgg144 rfl (by repeat (first | exact Cell.head rfl | apply Cell.tail))) rfl ?_
  refine SPO_h rfl (y_load Tryz.isAgg3 rfl (by repeat (first | exact Cell.head rfl | apply Cell.tail))) rfl ?_
  refine SPO_p rfl (y_idx_s Tryz.underlying9 rfl rfl (by omega) (getq (by omega) (by omega))) rfl ?_
  refine SPO_a rfl rfl (SP1_slice1 el_144 rfl rfl rfl rfl rfl ?_)
  intro b493
  refine ⟨⟨_, (by repeat (first | exact Part.nil _ | (apply Part.cons; (first | exact P0 | exact P1 | exact P2 | exact P3 | exact P4 | exact P5 | exact P6 | exact P7 | exact P8 | exact P9 | exact P10 | exact P11 | exact P12 | exact P13 | exact P14 | exact P15 | exact P16 | exact P17 | exact P18 | exact P19 | exact P20 | exact P21 | exact P22 | exact P23)) | (apply Part.flat; simp only [List.cons_append, List.nil_append]) | (apply Part.nilc)))⟩, ?_⟩
  refine SPO_z (k := 0) rfl rfl (SP1_append el_144 (.inl Tryz.underlying144) rfl rfl hst (by first | exact P0 | exact P1 | exact P2 | exact P3 | exact P4 | exact P5 | exact P6 | exact P7 | exact P8 | exact P9 | exact P10 | exact P11 | exact P12 | exact P13 | exact P14 | exact P15 | exact P16 | exact P17 | exact P18 | exact P19 | exact P20 | exact P21 | exact P22 | exact P23) (Src.of (by repeat (first | exact Cells.all _ | exact Cells.head rfl | apply Cells.tail)) (by rfl)) (by rfl) (by omega) rfl ?_)
  intro ta1 tc1 st1 hst1
  refine SPO_p rfl (y_nil rfl) rfl ?_
  refine SPO_p rfl (y_fa fld_174_0 rfl) rfl ?_
  refine SPO_z (k := 0) rfl rfl (SP1_store Tryz.sizeOf144 rfl rfl rfl (by first | exact U0 | exact U1 | exact U2 | exact U3 | exact U4 | exact U5 | exact U6 | exact U7 | exact U8 | exact U9 | exact U10 | exact U11 | exact U12 | exact U13 | exact U14 | exact U15 | exact U16 | exact U17 | exact U18 | exact U19 | exact U20 | exact U21 | exact U22 | exact U23) (by rfl) ?_)
  refine SPO_nil ?_
  refine inBlockP_n ?_
  refine thenP_n ?_
  refine SP_seq ?_
  refine SP_draw 7 [(0, 0), (1, 0), (2, 0), (3, 0), (4, 1), (5, 1), (6, 2), (7, 3), (8, 0), (9, 0), (10, 3)] mixed (by kernel_rfl) (fun _ _ _ _ _ h => h) (Part.refl _) ?_
  refine SPO_p rfl (y_move rfl) rfl ?_
  refine SPO_p rfl (y_move rfl) rfl ?_
  refine SPO_p rfl (y_nil rfl) rfl ?_
  refine SPO_p rfl (y_fa fld_164_4 rfl) rfl ?_
  refine SPO_h rfl (y_load Tryz.isAgg106 rfl (by repeat (first | exact row_cell (q := 4) rfl | apply Cell.tail))) rfl ?_
  refine SPO_h rfl (y_loads Tryz.isAgg181 Tryz.sizeOf181 rfl rfl (by repeat (first | exact Cells.all _ | exact Cells.head rfl | apply Cells.tail))) rfl ?_
  refine SPO_a rfl rfl (SP1_slice1 el_106 rfl rfl rfl rfl rfl ?_)
  intro b512
  refine ⟨⟨_, (by repeat (first | exact Part.nil _ | (apply Part.cons; (first | exact P0 | exact P1 | exact P2 | exact P3 | exact P4 | exact P5 | exact P6 | exact P7 | exact P8 | exact P9 | exact P10 | exact P11 | exact P12 | exact P13 | exact P14 | exact P15 | exact P16 | exact P17 | exact P18 | exact P19 | exact P20 | exact P21 | exact P22 | exact P23)) | (apply Part.flat; simp only [List.cons_append, List.nil_append]) | (apply Part.nilc)))⟩, ?_⟩
  refine SPO_z (k := 0) rfl rfl (SP1_append el_106 (.inl Tryz.underlying106) rfl rfl hcd (by first | exact P0 | exact P1 | exact P2 | exact P3 | exact P4 | exact P5 | exact P6 | exact P7 | exact P8 | exact P9 | exact P10 | exact P11 | exact P12 | exact P13 | exact P14 | exact P15 | exact P16 | exact P17 | exact P18 | exact P19 | exact P20 | exact P21 | exact P22 | exact P23) (Src.of (by repeat (first | exact Cells.all _ | exact Cells.head rfl | apply Cells.tail)) (by rfl)) (by rfl) (by omega) rfl ?_)
  intro ca1 cc1 cd1 hcd1
  refine SPO_p rfl (y_nil rfl) rfl ?_
  refine SPO_p rfl (y_fa fld_164_4 rfl) rfl ?_
  refine SPO_z (k := 0) rfl rfl (SP1_store Tryz.sizeOf106 rfl rfl rfl (by first | exact U0 | exact U1 | exact U2 | exact U3 | exact U4 | exact U5 | exact U6 | exact U7 | exact U8 | exact U9 | exact U10 | exact U11 | exact U12 | exact U13 | exact U14 | exact U15 | exact U16 | exact U17 | exact U18 | exact U19 | exact U20 | exact U21 | exact U22 | exact U23) (row_ble (r := rowM u (some ⟨bs, 0, none⟩) sc ca code.length cc) (q := 4) (show 4 < 5 by decide)) ?_)
  rw [row_set (r := rowM u (some ⟨bs, 0, none⟩) sc ca code.length cc) (q := 4) (show 4 < 5 by decide)]
  refine SPO_nil ?_
  refine thenP_n ?_
  refine SP_seq ?_
  refine SP_region ?_
  refine SPL_y (y_move rfl) rfl ?_
  refine SPL_one rfl (SP1_call (pm_typed _) Tryz.call95 rfl rfl (by repeat (first | exact Part.nil _ | (apply Part.cons; (first | exact P0 | exact P1 | exact P2 | exact P3 | exact P4 | exact P5 | exact P6 | exact P7 | exact P8 | exact P9 | exact P10 | exact P11 | exact P12 | exact P13 | exact P14 | exact P15 | exact P16 | exact P17 | exact P18 | exact P19 | exact P20 | exact P21 | exact P22 | exact P23)) | (apply Part.flat; simp only [List.cons_append, List.nil_append]) | (apply Part.nilc))) ?_)
  rintro v post H' ⟨rfl, rfl⟩ hH
  try simp only [List.cons_append, List.nil_append] at hH
  subst hH
  refine SPL_y (y_assign rfl) rfl ?_
  refine SPL_nil ?_
  refine thenP_n ?_
  refine SP_ret ?_
  refine bodyP_ret (H' := [blk pb 159 [nv, mnv, mxv, stv, .slice (some ⟨bf, 0, none⟩) fs.length fc], blk bf 164 (la ++ rowM u (some ⟨bs, 0, none⟩) sc ca1 (code.length + 1) cc1 ++ lb ++ sp), List.flatten [blk k 174 [.slice ta1 (K.st.length + 1) tc1, .slice oa K.cs.length oc], st1, so], blk bs 87 (codeV u.src ++ sps), cd1]) (Res1 rfl rfl) (by repeat (first | exact Part.nil _ | (apply Part.cons; (first | exact P0 | exact P1 | exact P2 | exact P3 | exact P4 | exact P5 | exact P6 | exact P7 | exact P8 | exact P9 | exact P10 | exact P11 | exact P12 | exact P13 | exact P14 | exact P15 | exact P16 | exact P17 | exact P18 | exact P19 | exact P20 | exact P21 | exact P22 | exact P23)) | (apply Part.flat; simp only [List.cons_append, List.nil_append]) | (apply Part.nilc))) ?_
  have e : oneM fs u code K i c = ({ K with st := K.st ++ [((u.params ++ u.locals).getD c.imm.toNat 0)] }, code ++ [⟨c.op, c.imm, 0, 0⟩], 0) := oneM_plain (by omega) (by unfold plainM; rw [if_neg (by omega), if_neg (by omega), if_neg (by omega), if_neg (by omega), if_neg (by omega), if_pos (by omega), if_neg (by omega), if_pos hop]) (by decide)
  rw [e]
  refine ⟨ca1, cc1, cd1, _, rfl, ?_, isKm.intro (k := k) len1 rfl (len1 (K := K) ▸ byte1 hst1) hop_, ?_⟩
  · simp
  · exact snocF hcd1

theorem take1 {l : List UInt8} {j : Int} (h0 : 0 ≤ j) (h1 : j < l.length) : (l.take (j + 1).toNat).drop j.toNat = [l.getD j.toNat 0] := by
  obtain ⟨n, rfl⟩ : ∃ n : Nat, j = n := ⟨j.toNat, by omega⟩
  rw [show ((n : Int) + 1).toNat = n + 1 by omega, Int.toNat_natCast, List.drop_take, show n + 1 - n = 1 by omega, List.drop_eq_getElem_cons (by omega), List.getD_eq_getElem?_getD, List.getElem?_eq_getElem (by omega)]; rfl

set_option maxHeartbeats 4000000 in
theorem pm_one_set (pb k bf : Nat) (nv mnv mxv stv : Value) (fc : Nat) (fs : List Fm) (u : Fm) (la lb sp : List Value) (sa : Option Addr) (sc : Nat) (ca : Option Addr) (cc : Nat) (code : List Flat) (sv cd : Seg) (K : Km) (s : Seg) (i : Nat) (c : Ins)
    (hi : i < u.src.length) (hci : u.src[i] = c) (hs : Arr 87 3 sa u.src.length sc (codeV u.src) sv) (hcd : Arr 181 4 ca code.length cc (code.flatMap flatV) cd) (hm : isKm k K s) (hK : KB K) (hL : LabOk K u.src)
    (hsl : u.src.length ≤ 1000) (htab : ∀ c, c ∈ u.src → c.tab.length ≤ 5) (hcl : code.length ≤ 100000) (hpl : u.params.length ≤ 100 ∧ u.results.length ≤ 100 ∧ u.locals.length ≤ 100)
    (hfs : ∀ (g : Nat) (f : Fm), fs[g]? = some f → (la ++ rowM u sa sc ca code.length cc ++ lb)[g * 5]? = some (S f.params) ∧ (la ++ rowM u sa sc ca code.length cc ++ lb)[g * 5 + 1]? = some (S f.results) ∧ f.params.length ≤ 100 ∧ f.results.length ≤ 100) (hfl : fs.length ≤ 1000) (hw : well c = true) (hop : c.op = 14) : Spec Tryz.prog 73 [.pointer (some ⟨pb, 0, none⟩), .pointer (some ⟨k, 0, none⟩), .pointer (some ⟨bf, la.length, none⟩), I i] [blk pb 159 [nv, mnv, mxv, stv, .slice (some ⟨bf, 0, none⟩) fs.length fc], blk bf 164 (la ++ rowM u sa sc ca code.length cc ++ lb ++ sp), s, sv, cd] (Ret fun v H => ∃ ca' cc' cd' s', v = I (oneM fs u code K i c).2.2 ∧ H = [blk pb 159 [nv, mnv, mxv, stv, .slice (some ⟨bf, 0, none⟩) fs.length fc], blk bf 164 (la ++ rowM u sa sc ca' (oneM fs u code K i c).2.1.length cc' ++ lb ++ sp), s', sv, cd'] ∧ isKm k (oneM fs u code K i c).1 s' ∧ Arr 181 4 ca' (oneM fs u code K i c).2.1.length cc' ((oneM fs u code K i c).2.1.flatMap flatV) cd') := by
  have hp := hK.pos
  have hz1 := hK.st
  have hz2 := hK.cs
  have hwg := (well_ge hw).1 (by omega)
  have hal : (u.params ++ u.locals).length = u.params.length + u.locals.length := List.length_append
  refine Spec_enter Tryz.func73 rfl Tryz.ntmps73 rfl ?_
  show SP _ _ _ _ _ [(0, _), (1, _), (2, _), (3, _)] _
  refine SP_seq ?_
  refine SP_region ?_
  refine SPL_y (y_assign rfl) rfl ?_
  refine SPL_nil ?_
  refine thenP_n ?_
  refine SP_seq ?_
  obtain ⟨bs, sps, rfl, hsc, hsps, rfl⟩ := hs.row (by omega)
  refine SP_region ?_
  refine SPL_y (y_move rfl) rfl ?_
  refine SPL_y (y_nil rfl) rfl ?_
  refine SPL_y (y_fa fld_164_3 rfl) rfl ?_
  refine SPL_y (y_load Tryz.isAgg34 rfl (by repeat (first | exact row_cell (q := 3) rfl | apply Cell.tail))) rfl ?_
  refine SPL_y (y_move rfl) rfl ?_
  refine SPL_y (y_ia Tryz.underlying34 Tryz.sizeOf87 rfl rfl (by omega)) rfl ?_
  refine SPL_y (y_loads Tryz.isAgg87 Tryz.sizeOf87 rfl rfl (by repeat (first | exact flat_cellsE insV_len (i := i) rfl hi hci | apply Cells.tail))) rfl ?_
  refine SPL_one rfl (SP1_alloc Tryz.zeroValue87 rfl rfl ?_)
  intro b9
  refine SPL_one rfl (SP1_storeAll Tryz.sizeOf87 rfl rfl rfl rfl rfl (by first | exact U0 | exact U1 | exact U2 | exact U3 | exact U4 | exact U5 | exact U6 | exact U7 | exact U8 | exact U9 | exact U10 | exact U11 | exact U12 | exact U13 | exact U14 | exact U15 | exact U16 | exact U17 | exact U18 | exact U19 | exact U20 | exact U21 | exact U22 | exact U23) (by rfl) ?_)
  refine SPL_y (y_assign rfl) rfl ?_
  refine SPL_nil ?_
  refine thenP_n ?_
  refine SP_seq ?_
  refine SP_region ?_
  refine SPL_y (y_fa fld_87_0 rfl) rfl ?_
  refine SPL_y (y_load Tryz.isAgg3 rfl (by repeat (first | exact Cell.head rfl | apply Cell.tail))) rfl ?_
  refine SPL_y (y_fa fld_87_1 rfl) rfl ?_
  refine SPL_y (y_load Tryz.isAgg3 rfl (by repeat (first | exact Cell.head rfl | apply Cell.tail))) rfl ?_
  refine SPL_y (y_build B181 rfl rfl (by simp only [fillL, List.foldl_cons, List.foldl_nil, List.set_cons_zero, List.set_cons_succ]; exact rfl)) rfl ?_
  refine SPL_one rfl (SP1_alloc Tryz.zeroValue181 rfl rfl ?_)
  intro b11
  refine SPL_one rfl (SP1_storeAll Tryz.sizeOf181 rfl rfl rfl rfl rfl (by first | exact U0 | exact U1 | exact U2 | exact U3 | exact U4 | exact U5 | exact U6 | exact U7 | exact U8 | exact U9 | exact U10 | exact U11 | exact U12 | exact U13 | exact U14 | exact U15 | exact U16 | exact U17 | exact U18 | exact U19 | exact U20 | exact U21 | exact U22 | exact U23) (by rfl) ?_)
  refine SPL_nil ?_
  refine thenP_n ?_
  refine SP_seq ?_
  refine SP_draw 999 [(0, 0), (1, 0), (2, 0), (4, 0), (5, 0), (6, 0), (3, 1), (7, 1), (8, 0), (9, 0)] mixed (by kernel_rfl) (fun _ _ _ _ _ h => h) (Part.refl _) ?_
  refine SPO_p rfl (y_move rfl) rfl ?_
  refine SPO_p rfl (y_nil rfl) rfl ?_
  refine SPO_p rfl (y_fa fld_164_0 rfl) rfl ?_
  refine SPO_p rfl (y_move rfl) rfl ?_
  refine SPO_p rfl (y_nil rfl) rfl ?_
  refine SPO_p rfl (y_fa fld_164_2 rfl) rfl ?_
  refine SPO_h rfl (y_load Tryz.isAgg9 rfl (by repeat (first | exact row_cell (q := 0) rfl | apply Cell.tail))) rfl ?_
  refine SPO_h rfl (y_load Tryz.isAgg9 rfl (by repeat (first | exact row_cell (q := 2) rfl | apply Cell.tail))) rfl ?_
  refine SPO_p rfl (y_cat rfl rfl (by first | omega | (simp; omega))) rfl ?_
  refine SPO_p rfl (y_assign rfl) rfl ?_
  refine SPO_nil ?_
  refine thenP_n ?_
  refine SP_seq ?_
  refine SP_seq ?_
  refine SP_region ?_
  refine SPL_y (y_fa fld_87_0 rfl) rfl ?_
  refine SPL_y (y_load Tryz.isAgg3 rfl (by repeat (first | exact Cell.head rfl | apply Cell.tail))) rfl ?_
  refine SPL_nil ?_
  refine thenP_n ?_
  refine SP_block ?_
  refine SP_seq ?_
  refine SP_seq ?_
  refine SP_region ?_
  refine SPL_y (y_eqlF rfl rfl (by omega)) rfl ?_
  refine SPL_y (y_assign rfl) rfl ?_
  refine SPL_nil ?_
  refine thenP_n ?_
  refine SP_cond_f rfl ?_
  refine SP_seq ?_
  refine SP_region ?_
  refine SPL_y (y_eqlF rfl rfl (by omega)) rfl ?_
  refine SPL_y (y_assign rfl) rfl ?_
  refine SPL_nil ?_
  refine thenP_n ?_
  refine SP_cond_f rfl ?_
  refine SP_region ?_
  refine SPL_y (y_eqlF rfl rfl (by omega)) rfl ?_
  refine SPL_y (y_assign rfl) rfl ?_
  refine SPL_nil ?_
  refine thenP_n ?_
  refine SP_cond_f rfl ?_
  refine SP_seq ?_
  refine SP_region ?_
  refine SPL_y (y_eqlF rfl rfl (by omega)) rfl ?_
  refine SPL_y (y_assign rfl) rfl ?_
  refine SPL_nil ?_
  refine thenP_n ?_
  refine SP_cond_f rfl ?_
  refine SP_seq ?_
  refine SP_region ?_
  refine SPL_y (y_eqlF rfl rfl (by omega)) rfl ?_
  refine SPL_y (y_assign rfl) rfl ?_
  refine SPL_nil ?_
  refine thenP_n ?_
  refine SP_cond_f rfl ?_
  refine SP_seq ?_
  refine SP_seq ?_
  refine SP_region ?_
  refine SPL_y (y_eqlF rfl rfl (by omega)) rfl ?_
  refine SPL_y (y_assign rfl) rfl ?_
  refine SPL_nil ?_
  refine thenP_n ?_
  refine SP_cond_f rfl ?_
  refine SP_region ?_
  refine SPL_y (y_eqlF rfl rfl (by omega)) rfl ?_
  refine SPL_y (y_assign rfl) rfl ?_
  refine SPL_nil ?_
  refine thenP_n ?_
  refine SP_cond_f rfl ?_
  refine SP_seq ?_
  refine SP_region ?_
  refine SPL_y (y_eqlF rfl rfl (by omega)) rfl ?_
  refine SPL_y (y_assign rfl) rfl ?_
  refine SPL_nil ?_
  refine thenP_n ?_
  refine SP_cond_f rfl ?_
  refine SP_seq ?_
  refine SP_region ?_
  refine SPL_y (y_eqlF rfl rfl (by omega)) rfl ?_
  refine SPL_y (y_assign rfl) rfl ?_
  refine SPL_nil ?_
  refine thenP_n ?_
  refine SP_cond_f rfl ?_
  refine SP_seq ?_
  refine SP_region ?_
  refine SPL_y (y_eqlF rfl rfl (by omega)) rfl ?_
  refine SPL_y (y_assign rfl) rfl ?_
  refine SPL_nil ?_
  refine thenP_n ?_
  refine SP_cond_f rfl ?_
  refine SP_seq ?_
  refine SP_region ?_
  refine SPL_y (y_eqlF rfl rfl (by omega)) rfl ?_
  refine SPL_y (y_assign rfl) rfl ?_
  refine SPL_nil ?_
  refine thenP_n ?_
  refine SP_cond_f rfl ?_
  refine SP_seq ?_
  refine SP_region ?_
  refine SPL_y (y_eqlF rfl rfl (by omega)) rfl ?_
  refine SPL_y (y_assign rfl) rfl ?_
  refine SPL_nil ?_
  refine thenP_n ?_
  refine SP_cond_f rfl ?_
  refine SP_seq ?_
  refine SP_region ?_
  refine SPL_y (y_eqlF rfl rfl (by omega)) rfl ?_
  refine SPL_y (y_assign rfl) rfl ?_
  refine SPL_nil ?_
  refine thenP_n ?_
  refine SP_cond_f rfl ?_
  refine SP_seq ?_
  refine SP_seq ?_
  refine SP_region ?_
  refine SPL_y (y_eqlF rfl rfl (by omega)) rfl ?_
  refine SPL_y (y_assign rfl) rfl ?_
  refine SPL_nil ?_
  refine thenP_n ?_
  refine SP_cond_f rfl ?_
  refine SP_region ?_
  refine SPL_y (y_eqlT rfl rfl hop) rfl ?_
  refine SPL_y (y_assign rfl) rfl ?_
  refine SPL_nil ?_
  refine thenP_n ?_
  refine SP_cond_t rfl ?_
  refine SP_seq ?_
  refine SP_seq ?_
  refine SP_region ?_
  refine SPL_y (y_fa fld_87_1 rfl) rfl ?_
  refine SPL_y (y_load Tryz.isAgg3 rfl (by repeat (first | exact Cell.head rfl | apply Cell.tail))) rfl ?_
  refine SPL_y (y_move rfl) rfl ?_
  refine SPL_y (y_len_s Tryz.underlying9 rfl) rfl ?_
  refine SPL_if (y_geq rfl rfl) rfl ?_ ?_
  · intro h84_4
    refine SPL_nil ?_
    refine thenP_n ?_
    refine SP_cond_t rfl ?_
    refine SP_seq ?_
    refine SP_region ?_
    refine SPL_y (y_assign rfl) rfl ?_
    refine SPL_nil ?_
    refine thenP_n ?_
    refine SP_ret ?_
    refine thenP_ret (inBlockP_ret (thenP_ret (bodyP_ret (H' := [blk pb 159 [nv, mnv, mxv, stv, .slice (some ⟨bf, 0, none⟩) fs.length fc], blk bf 164 (la ++ rowM u (some ⟨bs, 0, none⟩) sc ca code.length cc ++ lb ++ sp), s, blk bs 87 (codeV u.src ++ sps), cd]) (Res1 rfl rfl) (by repeat (first | exact Part.nil _ | (apply Part.cons; (first | exact P0 | exact P1 | exact P2 | exact P3 | exact P4 | exact P5 | exact P6 | exact P7 | exact P8 | exact P9 | exact P10 | exact P11 | exact P12 | exact P13 | exact P14 | exact P15 | exact P16 | exact P17 | exact P18 | exact P19 | exact P20 | exact P21 | exact P22 | exact P23)) | (apply Part.flat; simp only [List.cons_append, List.nil_append]) | (apply Part.nilc))) ?_)))
    have e : oneM fs u code K i c = (K, code, 5) := oneM_plain5 (by omega) (by unfold plainM; rw [if_neg (by omega), if_neg (by omega), if_neg (by omega), if_neg (by omega), if_neg (by omega), if_pos (by omega), if_pos (by omega)])
    rw [e]
    exact ⟨ca, cc, cd, s, rfl, rfl, hm, hcd⟩
  intro h84_4
  refine SPL_nil ?_
  refine thenP_n ?_
  refine SP_cond_f rfl ?_
  refine SP_skip ?_
  refine thenP_n ?_
  refine SP_seq ?_
  refine SP_region ?_
  refine SPL_y (y_fa fld_87_0 rfl) rfl ?_
  refine SPL_y (y_load Tryz.isAgg3 rfl (by repeat (first | exact Cell.head rfl | apply Cell.tail))) rfl ?_
  refine SPL_y (y_eqlF rfl rfl (by omega)) rfl ?_
  refine SPL_nil ?_
  refine thenP_n ?_
  refine SP_cond_f rfl ?_
  refine SP_region ?_
  refine SPL_y (y_move rfl) rfl ?_
  refine SPL_y (y_move rfl) rfl ?_
  refine SPL_y (y_fa fld_87_1 rfl) rfl ?_
  refine SPL_y (y_load Tryz.isAgg3 rfl (by repeat (first | exact Cell.head rfl | apply Cell.tail))) rfl ?_
  refine SPL_y (y_fa fld_87_1 rfl) rfl ?_
  refine SPL_y (y_load Tryz.isAgg3 rfl (by repeat (first | exact Cell.head rfl | apply Cell.tail))) rfl ?_
  refine SPL_y (y_add rfl rfl (by omega)) rfl ?_
  refine SPL_y (y_str_lh Tryz.underlying9 rfl rfl rfl (by omega)) rfl ?_
  rw [take1 (l := u.params ++ u.locals) (by omega) (by omega)]
  refine SPL_one rfl (SP1_call (pm_pops k K s [((u.params ++ u.locals).getD c.imm.toNat 0)] hm hK (by simp)) Tryz.call92 rfl rfl (by repeat (first | exact Part.nil _ | (apply Part.cons; (first | exact P0 | exact P1 | exact P2 | exact P3 | exact P4 | exact P5 | exact P6 | exact P7 | exact P8 | exact P9 | exact P10 | exact P11 | exact P12 | exact P13 | exact P14 | exact P15 | exact P16 | exact P17 | exact P18 | exact P19 | exact P20 | exact P21 | exact P22 | exact P23)) | (apply Part.flat; simp only [List.cons_append, List.nil_append]) | (apply Part.nilc))) ?_)
  rintro v post H' ⟨s1, rfl, rfl, hm1⟩ hH
  try simp only [List.cons_append, List.nil_append] at hH
  subst hH
  refine SPL_y (y_assign rfl) rfl ?_
  refine SPL_nil ?_
  refine inBlockP_n ?_
  refine thenP_n ?_
  refine SP_seq ?_
  refine SP_draw 7 [(0, 0), (1, 0), (2, 0), (3, 0), (4, 1), (5, 1), (6, 2), (7, 3), (8, 0), (9, 0), (10, 3)] mixed (by kernel_rfl) (fun _ _ _ _ _ h => h) (Part.refl _) ?_
  refine SPO_p rfl (y_move rfl) rfl ?_
  refine SPO_p rfl (y_move rfl) rfl ?_
  refine SPO_p rfl (y_nil rfl) rfl ?_
  refine SPO_p rfl (y_fa fld_164_4 rfl) rfl ?_
  refine SPO_h rfl (y_load Tryz.isAgg106 rfl (by repeat (first | exact row_cell (q := 4) rfl | apply Cell.tail))) rfl ?_
  refine SPO_h rfl (y_loads Tryz.isAgg181 Tryz.sizeOf181 rfl rfl (by repeat (first | exact Cells.all _ | exact Cells.head rfl | apply Cells.tail))) rfl ?_
  refine SPO_a rfl rfl (SP1_slice1 el_106 rfl rfl rfl rfl rfl ?_)
  intro b512
  refine ⟨⟨_, (by repeat (first | exact Part.nil _ | (apply Part.cons; (first | exact P0 | exact P1 | exact P2 | exact P3 | exact P4 | exact P5 | exact P6 | exact P7 | exact P8 | exact P9 | exact P10 | exact P11 | exact P12 | exact P13 | exact P14 | exact P15 | exact P16 | exact P17 | exact P18 | exact P19 | exact P20 | exact P21 | exact P22 | exact P23)) | (apply Part.flat; simp only [List.cons_append, List.nil_append]) | (apply Part.nilc)))⟩, ?_⟩
  refine SPO_z (k := 0) rfl rfl (SP1_append el_106 (.inl Tryz.underlying106) rfl rfl hcd (by first | exact P0 | exact P1 | exact P2 | exact P3 | exact P4 | exact P5 | exact P6 | exact P7 | exact P8 | exact P9 | exact P10 | exact P11 | exact P12 | exact P13 | exact P14 | exact P15 | exact P16 | exact P17 | exact P18 | exact P19 | exact P20 | exact P21 | exact P22 | exact P23) (Src.of (by repeat (first | exact Cells.all _ | exact Cells.head rfl | apply Cells.tail)) (by rfl)) (by rfl) (by omega) rfl ?_)
  intro ca1 cc1 cd1 hcd1
  refine SPO_p rfl (y_nil rfl) rfl ?_
  refine SPO_p rfl (y_fa fld_164_4 rfl) rfl ?_
  refine SPO_z (k := 0) rfl rfl (SP1_store Tryz.sizeOf106 rfl rfl rfl (by first | exact U0 | exact U1 | exact U2 | exact U3 | exact U4 | exact U5 | exact U6 | exact U7 | exact U8 | exact U9 | exact U10 | exact U11 | exact U12 | exact U13 | exact U14 | exact U15 | exact U16 | exact U17 | exact U18 | exact U19 | exact U20 | exact U21 | exact U22 | exact U23) (row_ble (r := rowM u (some ⟨bs, 0, none⟩) sc ca code.length cc) (q := 4) (show 4 < 5 by decide)) ?_)
  rw [row_set (r := rowM u (some ⟨bs, 0, none⟩) sc ca code.length cc) (q := 4) (show 4 < 5 by decide)]
  refine SPO_nil ?_
  refine thenP_n ?_
  refine SP_seq ?_
  refine SP_region ?_
  refine SPL_y (y_move rfl) rfl ?_
  refine SPL_one rfl (SP1_call (pm_typed _) Tryz.call95 rfl rfl (by repeat (first | exact Part.nil _ | (apply Part.cons; (first | exact P0 | exact P1 | exact P2 | exact P3 | exact P4 | exact P5 | exact P6 | exact P7 | exact P8 | exact P9 | exact P10 | exact P11 | exact P12 | exact P13 | exact P14 | exact P15 | exact P16 | exact P17 | exact P18 | exact P19 | exact P20 | exact P21 | exact P22 | exact P23)) | (apply Part.flat; simp only [List.cons_append, List.nil_append]) | (apply Part.nilc))) ?_)
  rintro v post H' ⟨rfl, rfl⟩ hH
  try simp only [List.cons_append, List.nil_append] at hH
  subst hH
  refine SPL_y (y_assign rfl) rfl ?_
  refine SPL_nil ?_
  refine thenP_n ?_
  refine SP_ret ?_
  refine bodyP_ret (H' := [blk pb 159 [nv, mnv, mxv, stv, .slice (some ⟨bf, 0, none⟩) fs.length fc], blk bf 164 (la ++ rowM u (some ⟨bs, 0, none⟩) sc ca1 (code.length + 1) cc1 ++ lb ++ sp), s1, blk bs 87 (codeV u.src ++ sps), cd1]) (Res1 rfl rfl) (by repeat (first | exact Part.nil _ | (apply Part.cons; (first | exact P0 | exact P1 | exact P2 | exact P3 | exact P4 | exact P5 | exact P6 | exact P7 | exact P8 | exact P9 | exact P10 | exact P11 | exact P12 | exact P13 | exact P14 | exact P15 | exact P16 | exact P17 | exact P18 | exact P19 | exact P20 | exact P21 | exact P22 | exact P23)) | (apply Part.flat; simp only [List.cons_append, List.nil_append]) | (apply Part.nilc))) ?_
  have e : oneM fs u code K i c = ((popsM K [((u.params ++ u.locals).getD c.imm.toNat 0)]).1, code ++ [⟨c.op, c.imm, 0, 0⟩], typedM (popsM K [((u.params ++ u.locals).getD c.imm.toNat 0)]).2) := oneM_plain (by omega) (by unfold plainM; rw [if_neg (by omega), if_neg (by omega), if_neg (by omega), if_neg (by omega), if_neg (by omega), if_pos (by omega), if_neg (by omega), if_neg (by omega)]) (typedM_ne _)
  rw [e]
  refine ⟨ca1, cc1, cd1, s1, rfl, ?_, hm1, ?_⟩
  · simp
  · exact snocF hcd1

set_option maxHeartbeats 4000000 in
theorem pm_one_sel (pb k bf : Nat) (nv mnv mxv stv : Value) (fc : Nat) (fs : List Fm) (u : Fm) (la lb sp : List Value) (sa : Option Addr) (sc : Nat) (ca : Option Addr) (cc : Nat) (code : List Flat) (sv cd : Seg) (K : Km) (s : Seg) (i : Nat) (c : Ins)
    (hi : i < u.src.length) (hci : u.src[i] = c) (hs : Arr 87 3 sa u.src.length sc (codeV u.src) sv) (hcd : Arr 181 4 ca code.length cc (code.flatMap flatV) cd) (hm : isKm k K s) (hK : KB K) (hL : LabOk K u.src)
    (hsl : u.src.length ≤ 1000) (htab : ∀ c, c ∈ u.src → c.tab.length ≤ 5) (hcl : code.length ≤ 100000) (hpl : u.params.length ≤ 100 ∧ u.results.length ≤ 100 ∧ u.locals.length ≤ 100)
    (hfs : ∀ (g : Nat) (f : Fm), fs[g]? = some f → (la ++ rowM u sa sc ca code.length cc ++ lb)[g * 5]? = some (S f.params) ∧ (la ++ rowM u sa sc ca code.length cc ++ lb)[g * 5 + 1]? = some (S f.results) ∧ f.params.length ≤ 100 ∧ f.results.length ≤ 100) (hfl : fs.length ≤ 1000) (hw : well c = true) (hop : c.op = 12) : Spec Tryz.prog 73 [.pointer (some ⟨pb, 0, none⟩), .pointer (some ⟨k, 0, none⟩), .pointer (some ⟨bf, la.length, none⟩), I i] [blk pb 159 [nv, mnv, mxv, stv, .slice (some ⟨bf, 0, none⟩) fs.length fc], blk bf 164 (la ++ rowM u sa sc ca code.length cc ++ lb ++ sp), s, sv, cd] (Ret fun v H => ∃ ca' cc' cd' s', v = I (oneM fs u code K i c).2.2 ∧ H = [blk pb 159 [nv, mnv, mxv, stv, .slice (some ⟨bf, 0, none⟩) fs.length fc], blk bf 164 (la ++ rowM u sa sc ca' (oneM fs u code K i c).2.1.length cc' ++ lb ++ sp), s', sv, cd'] ∧ isKm k (oneM fs u code K i c).1 s' ∧ Arr 181 4 ca' (oneM fs u code K i c).2.1.length cc' ((oneM fs u code K i c).2.1.flatMap flatV) cd') := by
  have hp := hK.pos
  have hz1 := hK.st
  have hz2 := hK.cs
  refine Spec_enter Tryz.func73 rfl Tryz.ntmps73 rfl ?_
  show SP _ _ _ _ _ [(0, _), (1, _), (2, _), (3, _)] _
  refine SP_seq ?_
  refine SP_region ?_
  refine SPL_y (y_assign rfl) rfl ?_
  refine SPL_nil ?_
  refine thenP_n ?_
  refine SP_seq ?_
  obtain ⟨bs, sps, rfl, hsc, hsps, rfl⟩ := hs.row (by omega)
  refine SP_region ?_
  refine SPL_y (y_move rfl) rfl ?_
  refine SPL_y (y_nil rfl) rfl ?_
  refine SPL_y (y_fa fld_164_3 rfl) rfl ?_
  refine SPL_y (y_load Tryz.isAgg34 rfl (by repeat (first | exact row_cell (q := 3) rfl | apply Cell.tail))) rfl ?_
  refine SPL_y (y_move rfl) rfl ?_
  refine SPL_y (y_ia Tryz.underlying34 Tryz.sizeOf87 rfl rfl (by omega)) rfl ?_
  refine SPL_y (y_loads Tryz.isAgg87 Tryz.sizeOf87 rfl rfl (by repeat (first | exact flat_cellsE insV_len (i := i) rfl hi hci | apply Cells.tail))) rfl ?_
  refine SPL_one rfl (SP1_alloc Tryz.zeroValue87 rfl rfl ?_)
  intro b9
  refine SPL_one rfl (SP1_storeAll Tryz.sizeOf87 rfl rfl rfl rfl rfl (by first | exact U0 | exact U1 | exact U2 | exact U3 | exact U4 | exact U5 | exact U6 | exact U7 | exact U8 | exact U9 | exact U10 | exact U11 | exact U12 | exact U13 | exact U14 | exact U15 | exact U16 | exact U17 | exact U18 | exact U19 | exact U20 | exact U21 | exact U22 | exact U23) (by rfl) ?_)
  refine SPL_y (y_assign rfl) rfl ?_
  refine SPL_nil ?_
  refine thenP_n ?_
  refine SP_seq ?_
  refine SP_region ?_
  refine SPL_y (y_fa fld_87_0 rfl) rfl ?_
  refine SPL_y (y_load Tryz.isAgg3 rfl (by repeat (first | exact Cell.head rfl | apply Cell.tail))) rfl ?_
  refine SPL_y (y_fa fld_87_1 rfl) rfl ?_
  refine SPL_y (y_load Tryz.isAgg3 rfl (by repeat (first | exact Cell.head rfl | apply Cell.tail))) rfl ?_
  refine SPL_y (y_build B181 rfl rfl (by simp only [fillL, List.foldl_cons, List.foldl_nil, List.set_cons_zero, List.set_cons_succ]; exact rfl)) rfl ?_
  refine SPL_one rfl (SP1_alloc Tryz.zeroValue181 rfl rfl ?_)
  intro b11
  refine SPL_one rfl (SP1_storeAll Tryz.sizeOf181 rfl rfl rfl rfl rfl (by first | exact U0 | exact U1 | exact U2 | exact U3 | exact U4 | exact U5 | exact U6 | exact U7 | exact U8 | exact U9 | exact U10 | exact U11 | exact U12 | exact U13 | exact U14 | exact U15 | exact U16 | exact U17 | exact U18 | exact U19 | exact U20 | exact U21 | exact U22 | exact U23) (by rfl) ?_)
  refine SPL_nil ?_
  refine thenP_n ?_
  refine SP_seq ?_
  refine SP_draw 999 [(0, 0), (1, 0), (2, 0), (4, 0), (5, 0), (6, 0), (3, 1), (7, 1), (8, 0), (9, 0)] mixed (by kernel_rfl) (fun _ _ _ _ _ h => h) (Part.refl _) ?_
  refine SPO_p rfl (y_move rfl) rfl ?_
  refine SPO_p rfl (y_nil rfl) rfl ?_
  refine SPO_p rfl (y_fa fld_164_0 rfl) rfl ?_
  refine SPO_p rfl (y_move rfl) rfl ?_
  refine SPO_p rfl (y_nil rfl) rfl ?_
  refine SPO_p rfl (y_fa fld_164_2 rfl) rfl ?_
  refine SPO_h rfl (y_load Tryz.isAgg9 rfl (by repeat (first | exact row_cell (q := 0) rfl | apply Cell.tail))) rfl ?_
  refine SPO_h rfl (y_load Tryz.isAgg9 rfl (by repeat (first | exact row_cell (q := 2) rfl | apply Cell.tail))) rfl ?_
  refine SPO_p rfl (y_cat rfl rfl (by first | omega | (simp; omega))) rfl ?_
  refine SPO_p rfl (y_assign rfl) rfl ?_
  refine SPO_nil ?_
  refine thenP_n ?_
  refine SP_seq ?_
  refine SP_seq ?_
  refine SP_region ?_
  refine SPL_y (y_fa fld_87_0 rfl) rfl ?_
  refine SPL_y (y_load Tryz.isAgg3 rfl (by repeat (first | exact Cell.head rfl | apply Cell.tail))) rfl ?_
  refine SPL_nil ?_
  refine thenP_n ?_
  refine SP_block ?_
  refine SP_seq ?_
  refine SP_seq ?_
  refine SP_region ?_
  refine SPL_y (y_eqlF rfl rfl (by omega)) rfl ?_
  refine SPL_y (y_assign rfl) rfl ?_
  refine SPL_nil ?_
  refine thenP_n ?_
  refine SP_cond_f rfl ?_
  refine SP_seq ?_
  refine SP_region ?_
  refine SPL_y (y_eqlF rfl rfl (by omega)) rfl ?_
  refine SPL_y (y_assign rfl) rfl ?_
  refine SPL_nil ?_
  refine thenP_n ?_
  refine SP_cond_f rfl ?_
  refine SP_region ?_
  refine SPL_y (y_eqlF rfl rfl (by omega)) rfl ?_
  refine SPL_y (y_assign rfl) rfl ?_
  refine SPL_nil ?_
  refine thenP_n ?_
  refine SP_cond_f rfl ?_
  refine SP_seq ?_
  refine SP_region ?_
  refine SPL_y (y_eqlF rfl rfl (by omega)) rfl ?_
  refine SPL_y (y_assign rfl) rfl ?_
  refine SPL_nil ?_
  refine thenP_n ?_
  refine SP_cond_f rfl ?_
  refine SP_seq ?_
  refine SP_region ?_
  refine SPL_y (y_eqlF rfl rfl (by omega)) rfl ?_
  refine SPL_y (y_assign rfl) rfl ?_
  refine SPL_nil ?_
  refine thenP_n ?_
  refine SP_cond_f rfl ?_
  refine SP_seq ?_
  refine SP_seq ?_
  refine SP_region ?_
  refine SPL_y (y_eqlF rfl rfl (by omega)) rfl ?_
  refine SPL_y (y_assign rfl) rfl ?_
  refine SPL_nil ?_
  refine thenP_n ?_
  refine SP_cond_f rfl ?_
  refine SP_region ?_
  refine SPL_y (y_eqlF rfl rfl (by omega)) rfl ?_
  refine SPL_y (y_assign rfl) rfl ?_
  refine SPL_nil ?_
  refine thenP_n ?_
  refine SP_cond_f rfl ?_
  refine SP_seq ?_
  refine SP_region ?_
  refine SPL_y (y_eqlF rfl rfl (by omega)) rfl ?_
  refine SPL_y (y_assign rfl) rfl ?_
  refine SPL_nil ?_
  refine thenP_n ?_
  refine SP_cond_f rfl ?_
  refine SP_seq ?_
  refine SP_region ?_
  refine SPL_y (y_eqlF rfl rfl (by omega)) rfl ?_
  refine SPL_y (y_assign rfl) rfl ?_
  refine SPL_nil ?_
  refine thenP_n ?_
  refine SP_cond_f rfl ?_
  refine SP_seq ?_
  refine SP_region ?_
  refine SPL_y (y_eqlF rfl rfl (by omega)) rfl ?_
  refine SPL_y (y_assign rfl) rfl ?_
  refine SPL_nil ?_
  refine thenP_n ?_
  refine SP_cond_f rfl ?_
  refine SP_seq ?_
  refine SP_region ?_
  refine SPL_y (y_eqlF rfl rfl (by omega)) rfl ?_
  refine SPL_y (y_assign rfl) rfl ?_
  refine SPL_nil ?_
  refine thenP_n ?_
  refine SP_cond_f rfl ?_
  refine SP_seq ?_
  refine SP_region ?_
  refine SPL_y (y_eqlF rfl rfl (by omega)) rfl ?_
  refine SPL_y (y_assign rfl) rfl ?_
  refine SPL_nil ?_
  refine thenP_n ?_
  refine SP_cond_f rfl ?_
  refine SP_seq ?_
  refine SP_region ?_
  refine SPL_y (y_eqlT rfl rfl hop) rfl ?_
  refine SPL_y (y_assign rfl) rfl ?_
  refine SPL_nil ?_
  refine thenP_n ?_
  refine SP_cond_t rfl ?_
  refine SP_seq ?_
  refine SP_region ?_
  refine SPL_y (y_move rfl) rfl ?_
  refine SPL_one rfl (SP1_call (pm_pops k K s [105] hm hK (by decide)) Tryz.call92 rfl rfl (by repeat (first | exact Part.nil _ | (apply Part.cons; (first | exact P0 | exact P1 | exact P2 | exact P3 | exact P4 | exact P5 | exact P6 | exact P7 | exact P8 | exact P9 | exact P10 | exact P11 | exact P12 | exact P13 | exact P14 | exact P15 | exact P16 | exact P17 | exact P18 | exact P19 | exact P20 | exact P21 | exact P22 | exact P23)) | (apply Part.flat; simp only [List.cons_append, List.nil_append]) | (apply Part.nilc))) ?_)
  rintro v post H' ⟨s1, rfl, rfl, hm1⟩ hH
  try simp only [List.cons_append, List.nil_append] at hH
  subst hH
  refine SPL_y (y_assign rfl) rfl ?_
  refine SPL_nil ?_
  refine thenP_n ?_
  refine SP_seq ?_
  refine SP_region ?_
  refine SPL_y (y_move rfl) rfl ?_
  refine SPL_one rfl (SP1_call (pm_pop k (popsM K [105]).1 s1 0 hm1 (hK.pops _)) Tryz.call102 rfl rfl (by repeat (first | exact Part.nil _ | (apply Part.cons; (first | exact P0 | exact P1 | exact P2 | exact P3 | exact P4 | exact P5 | exact P6 | exact P7 | exact P8 | exact P9 | exact P10 | exact P11 | exact P12 | exact P13 | exact P14 | exact P15 | exact P16 | exact P17 | exact P18 | exact P19 | exact P20 | exact P21 | exact P22 | exact P23)) | (apply Part.flat; simp only [List.cons_append, List.nil_append]) | (apply Part.nilc))) ?_)
  rintro v post H' ⟨s2, rfl, rfl, hm2⟩ hH
  try simp only [List.cons_append, List.nil_append] at hH
  subst hH
  refine SPL_y (y_move rfl) rfl ?_
  refine SPL_y (y_ext rfl rfl) rfl ?_
  refine SPL_y (y_ext rfl rfl) rfl ?_
  refine SPL_y (y_assign rfl) rfl ?_
  refine SPL_y (y_assign rfl) rfl ?_
  refine SPL_nil ?_
  refine thenP_n ?_
  refine SP_seq ?_
  refine SP_region ?_
  refine SPL_y (y_move rfl) rfl ?_
  refine SPL_y (y_move rfl) rfl ?_
  refine SPL_one rfl (SP1_call (pm_pop k (popM (popsM K [105]).1 0).1 s2 (popM (popsM K [105]).1 0).2.1 hm2 ((hK.pops _).pop _)) Tryz.call102 rfl rfl (by repeat (first | exact Part.nil _ | (apply Part.cons; (first | exact P0 | exact P1 | exact P2 | exact P3 | exact P4 | exact P5 | exact P6 | exact P7 | exact P8 | exact P9 | exact P10 | exact P11 | exact P12 | exact P13 | exact P14 | exact P15 | exact P16 | exact P17 | exact P18 | exact P19 | exact P20 | exact P21 | exact P22 | exact P23)) | (apply Part.flat; simp only [List.cons_append, List.nil_append]) | (apply Part.nilc))) ?_)
  rintro v post H' ⟨s3, rfl, rfl, hm3⟩ hH
  try simp only [List.cons_append, List.nil_append] at hH
  subst hH
  refine SPL_y (y_move rfl) rfl ?_
  refine SPL_y (y_ext rfl rfl) rfl ?_
  refine SPL_y (y_ext rfl rfl) rfl ?_
  refine SPL_y (y_assign rfl) rfl ?_
  refine SPL_y (y_assign rfl) rfl ?_
  refine SPL_nil ?_
  refine thenP_n ?_
  refine SP_seq ?_
  have hK3 := (((hK.pops [105]).pop 0).pop (popM (popsM K [105]).1 0).2.1).st
  obtain ⟨b1, hb1⟩ : ∃ b, (popsM K [105]).2 = b := ⟨_, rfl⟩
  obtain ⟨b2, hb2⟩ : ∃ b, (popM (popsM K [105]).1 0).2.2 = b := ⟨_, rfl⟩
  obtain ⟨b3, hb3⟩ : ∃ b, (popM (popM (popsM K [105]).1 0).1 (popM (popsM K [105]).1 0).2.1).2.2 = b := ⟨_, rfl⟩
  obtain ⟨t3, ht3⟩ : ∃ b, (popM (popM (popsM K [105]).1 0).1 (popM (popsM K [105]).1 0).2.1).2.1 = b := ⟨_, rfl⟩
  obtain ⟨K3, hK3e⟩ : ∃ b, (popM (popM (popsM K [105]).1 0).1 (popM (popsM K [105]).1 0).2.1).1 = b := ⟨_, rfl⟩
  have hpl : plainM fs u K c = ({ K3 with st := K3.st ++ [t3] }, typedM (b1 && b2 && b3)) := by
    unfold plainM; rw [if_neg (by omega), if_neg (by omega), if_neg (by omega), if_neg (by omega), if_pos hop]; dsimp only; rw [hb1, hb2, hb3, ht3, hK3e]
  rw [hb1, hb2, hb3, ht3]
  rw [hK3e] at hm3 hK3
  obtain ⟨ta, tc, oa, oc, st, so, rfl, hst, hop_⟩ := hm3
  refine SP_openAt [blk k 174 [.slice ta K3.st.length tc, .slice oa K3.cs.length oc], st, so] (by first | exact P0 | exact P1 | exact P2 | exact P3 | exact P4 | exact P5 | exact P6 | exact P7 | exact P8 | exact P9 | exact P10 | exact P11 | exact P12 | exact P13 | exact P14 | exact P15 | exact P16 | exact P17 | exact P18 | exact P19 | exact P20 | exact P21 | exact P22 | exact P23) ?_
  simp only [List.cons_append, List.nil_append]
  refine SP_region ?_
  refine SPL_y (y_move rfl) rfl ?_
  refine SPL_y (y_move rfl) rfl ?_
  refine SPL_y (y_nil rfl) rfl ?_
  refine SPL_y (y_fa fld_174_0 rfl) rfl ?_
  refine SPL_y (y_load Tryz.isAgg144 rfl (by repeat (first | exact Cell.head rfl | apply Cell.tail))) rfl ?_
  refine SPL_y (y_move rfl) rfl ?_
  refine SPL_one rfl (SP1_slice1 el_144 rfl rfl rfl rfl rfl ?_)
  intro b462
  refine SPL_one rfl (SP1_append el_144 (.inl Tryz.underlying144) rfl rfl hst (by first | exact P0 | exact P1 | exact P2 | exact P3 | exact P4 | exact P5 | exact P6 | exact P7 | exact P8 | exact P9 | exact P10 | exact P11 | exact P12 | exact P13 | exact P14 | exact P15 | exact P16 | exact P17 | exact P18 | exact P19 | exact P20 | exact P21 | exact P22 | exact P23) (Src.of (by repeat (first | exact Cells.all _ | exact Cells.head rfl | apply Cells.tail)) (by rfl)) (by rfl) (by omega) rfl ?_)
  intro ta1 tc1 st1 hst1
  refine SPL_y (y_nil rfl) rfl ?_
  refine SPL_y (y_fa fld_174_0 rfl) rfl ?_
  refine SPL_one rfl (SP1_store Tryz.sizeOf144 rfl rfl rfl (by first | exact U0 | exact U1 | exact U2 | exact U3 | exact U4 | exact U5 | exact U6 | exact U7 | exact U8 | exact U9 | exact U10 | exact U11 | exact U12 | exact U13 | exact U14 | exact U15 | exact U16 | exact U17 | exact U18 | exact U19 | exact U20 | exact U21 | exact U22 | exact U23) (by rfl) ?_)
  refine SPL_nil ?_
  refine thenP_n ?_
  refine SP_region ?_
  refine SPL_y (y_move rfl) rfl ?_
  refine SPL_y (y_move rfl) rfl ?_
  rcases b1 with _ | _
  · refine SPL_gn rfl rfl rfl rfl ?_
    refine SPL_y (y_pick_f rfl rfl) rfl ?_
    refine SPL_y (y_move rfl) rfl ?_
    refine SPL_gn rfl rfl rfl rfl ?_
    refine SPL_y (y_pick_f rfl rfl) rfl ?_
    refine SPL_y (y_assign rfl) rfl ?_
    refine SPL_nil ?_
    refine inBlockP_n ?_
    refine thenP_n ?_
    refine SP_seq ?_
    refine SP_draw 7 [(0, 0), (1, 0), (2, 0), (3, 0), (4, 1), (5, 1), (6, 2), (7, 3), (8, 0), (9, 0), (10, 3)] mixed (by kernel_rfl) (fun _ _ _ _ _ h => h) (Part.refl _) ?_
    refine SPO_p rfl (y_move rfl) rfl ?_
    refine SPO_p rfl (y_move rfl) rfl ?_
    refine SPO_p rfl (y_nil rfl) rfl ?_
    refine SPO_p rfl (y_fa fld_164_4 rfl) rfl ?_
    refine SPO_h rfl (y_load Tryz.isAgg106 rfl (by repeat (first | exact row_cell (q := 4) rfl | apply Cell.tail))) rfl ?_
    refine SPO_h rfl (y_loads Tryz.isAgg181 Tryz.sizeOf181 rfl rfl (by repeat (first | exact Cells.all _ | exact Cells.head rfl | apply Cells.tail))) rfl ?_
    refine SPO_a rfl rfl (SP1_slice1 el_106 rfl rfl rfl rfl rfl ?_)
    intro b512
    refine ⟨⟨_, (by repeat (first | exact Part.nil _ | (apply Part.cons; (first | exact P0 | exact P1 | exact P2 | exact P3 | exact P4 | exact P5 | exact P6 | exact P7 | exact P8 | exact P9 | exact P10 | exact P11 | exact P12 | exact P13 | exact P14 | exact P15 | exact P16 | exact P17 | exact P18 | exact P19 | exact P20 | exact P21 | exact P22 | exact P23)) | (apply Part.flat; simp only [List.cons_append, List.nil_append]) | (apply Part.nilc)))⟩, ?_⟩
    refine SPO_z (k := 0) rfl rfl (SP1_append el_106 (.inl Tryz.underlying106) rfl rfl hcd (by first | exact P0 | exact P1 | exact P2 | exact P3 | exact P4 | exact P5 | exact P6 | exact P7 | exact P8 | exact P9 | exact P10 | exact P11 | exact P12 | exact P13 | exact P14 | exact P15 | exact P16 | exact P17 | exact P18 | exact P19 | exact P20 | exact P21 | exact P22 | exact P23) (Src.of (by repeat (first | exact Cells.all _ | exact Cells.head rfl | apply Cells.tail)) (by rfl)) (by rfl) (by omega) rfl ?_)
    intro ca1 cc1 cd1 hcd1
    refine SPO_p rfl (y_nil rfl) rfl ?_
    refine SPO_p rfl (y_fa fld_164_4 rfl) rfl ?_
    refine SPO_z (k := 0) rfl rfl (SP1_store Tryz.sizeOf106 rfl rfl rfl (by first | exact U0 | exact U1 | exact U2 | exact U3 | exact U4 | exact U5 | exact U6 | exact U7 | exact U8 | exact U9 | exact U10 | exact U11 | exact U12 | exact U13 | exact U14 | exact U15 | exact U16 | exact U17 | exact U18 | exact U19 | exact U20 | exact U21 | exact U22 | exact U23) (row_ble (r := rowM u (some ⟨bs, 0, none⟩) sc ca code.length cc) (q := 4) (show 4 < 5 by decide)) ?_)
    rw [row_set (r := rowM u (some ⟨bs, 0, none⟩) sc ca code.length cc) (q := 4) (show 4 < 5 by decide)]
    refine SPO_nil ?_
    refine thenP_n ?_
    refine SP_seq ?_
    refine SP_region ?_
    refine SPL_y (y_move rfl) rfl ?_
    refine SPL_one rfl (SP1_call (pm_typed _) Tryz.call95 rfl rfl (by repeat (first | exact Part.nil _ | (apply Part.cons; (first | exact P0 | exact P1 | exact P2 | exact P3 | exact P4 | exact P5 | exact P6 | exact P7 | exact P8 | exact P9 | exact P10 | exact P11 | exact P12 | exact P13 | exact P14 | exact P15 | exact P16 | exact P17 | exact P18 | exact P19 | exact P20 | exact P21 | exact P22 | exact P23)) | (apply Part.flat; simp only [List.cons_append, List.nil_append]) | (apply Part.nilc))) ?_)
    rintro v post H' ⟨rfl, rfl⟩ hH
    try simp only [List.cons_append, List.nil_append] at hH
    subst hH
    refine SPL_y (y_assign rfl) rfl ?_
    refine SPL_nil ?_
    refine thenP_n ?_
    refine SP_ret ?_
    refine bodyP_ret (H' := [blk pb 159 [nv, mnv, mxv, stv, .slice (some ⟨bf, 0, none⟩) fs.length fc], blk bf 164 (la ++ rowM u (some ⟨bs, 0, none⟩) sc ca1 (code.length + 1) cc1 ++ lb ++ sp), List.flatten [blk k 174 [.slice ta1 (K3.st.length + 1) tc1, .slice oa K3.cs.length oc], st1, so], blk bs 87 (codeV u.src ++ sps), cd1]) (Res1 rfl rfl) (by repeat (first | exact Part.nil _ | (apply Part.cons; (first | exact P0 | exact P1 | exact P2 | exact P3 | exact P4 | exact P5 | exact P6 | exact P7 | exact P8 | exact P9 | exact P10 | exact P11 | exact P12 | exact P13 | exact P14 | exact P15 | exact P16 | exact P17 | exact P18 | exact P19 | exact P20 | exact P21 | exact P22 | exact P23)) | (apply Part.flat; simp only [List.cons_append, List.nil_append]) | (apply Part.nilc))) ?_
    have e : oneM fs u code K i c = ({ K3 with st := K3.st ++ [t3] }, code ++ [⟨c.op, c.imm, 0, 0⟩], typedM _) := oneM_plain (by omega) hpl (typedM_ne _)
    rw [e]
    refine ⟨ca1, cc1, cd1, _, rfl, ?_, isKm.intro (k := k) len1 rfl (len1 (K := K3) ▸ byte1 hst1) hop_, ?_⟩
    · simp
    · exact snocF hcd1
  · refine SPL_gy rfl rfl ?_
    refine SPL_y (y_move rfl) rfl ?_
    rcases b2 with _ | _
    · refine SPL_y (y_pick_t rfl rfl) rfl ?_
      refine SPL_y (y_move rfl) rfl ?_
      refine SPL_gn rfl rfl rfl rfl ?_
      refine SPL_y (y_pick_f rfl rfl) rfl ?_
      refine SPL_y (y_assign rfl) rfl ?_
      refine SPL_nil ?_
      refine inBlockP_n ?_
      refine thenP_n ?_
      refine SP_seq ?_
      refine SP_draw 7 [(0, 0), (1, 0), (2, 0), (3, 0), (4, 1), (5, 1), (6, 2), (7, 3), (8, 0), (9, 0), (10, 3)] mixed (by kernel_rfl) (fun _ _ _ _ _ h => h) (Part.refl _) ?_
      refine SPO_p rfl (y_move rfl) rfl ?_
      refine SPO_p rfl (y_move rfl) rfl ?_
      refine SPO_p rfl (y_nil rfl) rfl ?_
      refine SPO_p rfl (y_fa fld_164_4 rfl) rfl ?_
      refine SPO_h rfl (y_load Tryz.isAgg106 rfl (by repeat (first | exact row_cell (q := 4) rfl | apply Cell.tail))) rfl ?_
      refine SPO_h rfl (y_loads Tryz.isAgg181 Tryz.sizeOf181 rfl rfl (by repeat (first | exact Cells.all _ | exact Cells.head rfl | apply Cells.tail))) rfl ?_
      refine SPO_a rfl rfl (SP1_slice1 el_106 rfl rfl rfl rfl rfl ?_)
      intro b512
      refine ⟨⟨_, (by repeat (first | exact Part.nil _ | (apply Part.cons; (first | exact P0 | exact P1 | exact P2 | exact P3 | exact P4 | exact P5 | exact P6 | exact P7 | exact P8 | exact P9 | exact P10 | exact P11 | exact P12 | exact P13 | exact P14 | exact P15 | exact P16 | exact P17 | exact P18 | exact P19 | exact P20 | exact P21 | exact P22 | exact P23)) | (apply Part.flat; simp only [List.cons_append, List.nil_append]) | (apply Part.nilc)))⟩, ?_⟩
      refine SPO_z (k := 0) rfl rfl (SP1_append el_106 (.inl Tryz.underlying106) rfl rfl hcd (by first | exact P0 | exact P1 | exact P2 | exact P3 | exact P4 | exact P5 | exact P6 | exact P7 | exact P8 | exact P9 | exact P10 | exact P11 | exact P12 | exact P13 | exact P14 | exact P15 | exact P16 | exact P17 | exact P18 | exact P19 | exact P20 | exact P21 | exact P22 | exact P23) (Src.of (by repeat (first | exact Cells.all _ | exact Cells.head rfl | apply Cells.tail)) (by rfl)) (by rfl) (by omega) rfl ?_)
      intro ca1 cc1 cd1 hcd1
      refine SPO_p rfl (y_nil rfl) rfl ?_
      refine SPO_p rfl (y_fa fld_164_4 rfl) rfl ?_
      refine SPO_z (k := 0) rfl rfl (SP1_store Tryz.sizeOf106 rfl rfl rfl (by first | exact U0 | exact U1 | exact U2 | exact U3 | exact U4 | exact U5 | exact U6 | exact U7 | exact U8 | exact U9 | exact U10 | exact U11 | exact U12 | exact U13 | exact U14 | exact U15 | exact U16 | exact U17 | exact U18 | exact U19 | exact U20 | exact U21 | exact U22 | exact U23) (row_ble (r := rowM u (some ⟨bs, 0, none⟩) sc ca code.length cc) (q := 4) (show 4 < 5 by decide)) ?_)
      rw [row_set (r := rowM u (some ⟨bs, 0, none⟩) sc ca code.length cc) (q := 4) (show 4 < 5 by decide)]
      refine SPO_nil ?_
      refine thenP_n ?_
      refine SP_seq ?_
      refine SP_region ?_
      refine SPL_y (y_move rfl) rfl ?_
      refine SPL_one rfl (SP1_call (pm_typed _) Tryz.call95 rfl rfl (by repeat (first | exact Part.nil _ | (apply Part.cons; (first | exact P0 | exact P1 | exact P2 | exact P3 | exact P4 | exact P5 | exact P6 | exact P7 | exact P8 | exact P9 | exact P10 | exact P11 | exact P12 | exact P13 | exact P14 | exact P15 | exact P16 | exact P17 | exact P18 | exact P19 | exact P20 | exact P21 | exact P22 | exact P23)) | (apply Part.flat; simp only [List.cons_append, List.nil_append]) | (apply Part.nilc))) ?_)
      rintro v post H' ⟨rfl, rfl⟩ hH
      try simp only [List.cons_append, List.nil_append] at hH
      subst hH
      refine SPL_y (y_assign rfl) rfl ?_
      refine SPL_nil ?_
      refine thenP_n ?_
      refine SP_ret ?_
      refine bodyP_ret (H' := [blk pb 159 [nv, mnv, mxv, stv, .slice (some ⟨bf, 0, none⟩) fs.length fc], blk bf 164 (la ++ rowM u (some ⟨bs, 0, none⟩) sc ca1 (code.length + 1) cc1 ++ lb ++ sp), List.flatten [blk k 174 [.slice ta1 (K3.st.length + 1) tc1, .slice oa K3.cs.length oc], st1, so], blk bs 87 (codeV u.src ++ sps), cd1]) (Res1 rfl rfl) (by repeat (first | exact Part.nil _ | (apply Part.cons; (first | exact P0 | exact P1 | exact P2 | exact P3 | exact P4 | exact P5 | exact P6 | exact P7 | exact P8 | exact P9 | exact P10 | exact P11 | exact P12 | exact P13 | exact P14 | exact P15 | exact P16 | exact P17 | exact P18 | exact P19 | exact P20 | exact P21 | exact P22 | exact P23)) | (apply Part.flat; simp only [List.cons_append, List.nil_append]) | (apply Part.nilc))) ?_
      have e : oneM fs u code K i c = ({ K3 with st := K3.st ++ [t3] }, code ++ [⟨c.op, c.imm, 0, 0⟩], typedM _) := oneM_plain (by omega) hpl (typedM_ne _)
      rw [e]
      refine ⟨ca1, cc1, cd1, _, rfl, ?_, isKm.intro (k := k) len1 rfl (len1 (K := K3) ▸ byte1 hst1) hop_, ?_⟩
      · simp
      · exact snocF hcd1
    · refine SPL_y (y_pick_t rfl rfl) rfl ?_
      refine SPL_y (y_move rfl) rfl ?_
      refine SPL_gy rfl rfl ?_
      refine SPL_y (y_move rfl) rfl ?_
      refine SPL_y (y_pick_t rfl rfl) rfl ?_
      refine SPL_y (y_assign rfl) rfl ?_
      refine SPL_nil ?_
      refine inBlockP_n ?_
      refine thenP_n ?_
      refine SP_seq ?_
      refine SP_draw 7 [(0, 0), (1, 0), (2, 0), (3, 0), (4, 1), (5, 1), (6, 2), (7, 3), (8, 0), (9, 0), (10, 3)] mixed (by kernel_rfl) (fun _ _ _ _ _ h => h) (Part.refl _) ?_
      refine SPO_p rfl (y_move rfl) rfl ?_
      refine SPO_p rfl (y_move rfl) rfl ?_
      refine SPO_p rfl (y_nil rfl) rfl ?_
      refine SPO_p rfl (y_fa fld_164_4 rfl) rfl ?_
      refine SPO_h rfl (y_load Tryz.isAgg106 rfl (by repeat (first | exact row_cell (q := 4) rfl | apply Cell.tail))) rfl ?_
      refine SPO_h rfl (y_loads Tryz.isAgg181 Tryz.sizeOf181 rfl rfl (by repeat (first | exact Cells.all _ | exact Cells.head rfl | apply Cells.tail))) rfl ?_
      refine SPO_a rfl rfl (SP1_slice1 el_106 rfl rfl rfl rfl rfl ?_)
      intro b512
      refine ⟨⟨_, (by repeat (first | exact Part.nil _ | (apply Part.cons; (first | exact P0 | exact P1 | exact P2 | exact P3 | exact P4 | exact P5 | exact P6 | exact P7 | exact P8 | exact P9 | exact P10 | exact P11 | exact P12 | exact P13 | exact P14 | exact P15 | exact P16 | exact P17 | exact P18 | exact P19 | exact P20 | exact P21 | exact P22 | exact P23)) | (apply Part.flat; simp only [List.cons_append, List.nil_append]) | (apply Part.nilc)))⟩, ?_⟩
      refine SPO_z (k := 0) rfl rfl (SP1_append el_106 (.inl Tryz.underlying106) rfl rfl hcd (by first | exact P0 | exact P1 | exact P2 | exact P3 | exact P4 | exact P5 | exact P6 | exact P7 | exact P8 | exact P9 | exact P10 | exact P11 | exact P12 | exact P13 | exact P14 | exact P15 | exact P16 | exact P17 | exact P18 | exact P19 | exact P20 | exact P21 | exact P22 | exact P23) (Src.of (by repeat (first | exact Cells.all _ | exact Cells.head rfl | apply Cells.tail)) (by rfl)) (by rfl) (by omega) rfl ?_)
      intro ca1 cc1 cd1 hcd1
      refine SPO_p rfl (y_nil rfl) rfl ?_
      refine SPO_p rfl (y_fa fld_164_4 rfl) rfl ?_
      refine SPO_z (k := 0) rfl rfl (SP1_store Tryz.sizeOf106 rfl rfl rfl (by first | exact U0 | exact U1 | exact U2 | exact U3 | exact U4 | exact U5 | exact U6 | exact U7 | exact U8 | exact U9 | exact U10 | exact U11 | exact U12 | exact U13 | exact U14 | exact U15 | exact U16 | exact U17 | exact U18 | exact U19 | exact U20 | exact U21 | exact U22 | exact U23) (row_ble (r := rowM u (some ⟨bs, 0, none⟩) sc ca code.length cc) (q := 4) (show 4 < 5 by decide)) ?_)
      rw [row_set (r := rowM u (some ⟨bs, 0, none⟩) sc ca code.length cc) (q := 4) (show 4 < 5 by decide)]
      refine SPO_nil ?_
      refine thenP_n ?_
      refine SP_seq ?_
      refine SP_region ?_
      refine SPL_y (y_move rfl) rfl ?_
      refine SPL_one rfl (SP1_call (pm_typed _) Tryz.call95 rfl rfl (by repeat (first | exact Part.nil _ | (apply Part.cons; (first | exact P0 | exact P1 | exact P2 | exact P3 | exact P4 | exact P5 | exact P6 | exact P7 | exact P8 | exact P9 | exact P10 | exact P11 | exact P12 | exact P13 | exact P14 | exact P15 | exact P16 | exact P17 | exact P18 | exact P19 | exact P20 | exact P21 | exact P22 | exact P23)) | (apply Part.flat; simp only [List.cons_append, List.nil_append]) | (apply Part.nilc))) ?_)
      rintro v post H' ⟨rfl, rfl⟩ hH
      try simp only [List.cons_append, List.nil_append] at hH
      subst hH
      refine SPL_y (y_assign rfl) rfl ?_
      refine SPL_nil ?_
      refine thenP_n ?_
      refine SP_ret ?_
      refine bodyP_ret (H' := [blk pb 159 [nv, mnv, mxv, stv, .slice (some ⟨bf, 0, none⟩) fs.length fc], blk bf 164 (la ++ rowM u (some ⟨bs, 0, none⟩) sc ca1 (code.length + 1) cc1 ++ lb ++ sp), List.flatten [blk k 174 [.slice ta1 (K3.st.length + 1) tc1, .slice oa K3.cs.length oc], st1, so], blk bs 87 (codeV u.src ++ sps), cd1]) (Res1 rfl rfl) (by repeat (first | exact Part.nil _ | (apply Part.cons; (first | exact P0 | exact P1 | exact P2 | exact P3 | exact P4 | exact P5 | exact P6 | exact P7 | exact P8 | exact P9 | exact P10 | exact P11 | exact P12 | exact P13 | exact P14 | exact P15 | exact P16 | exact P17 | exact P18 | exact P19 | exact P20 | exact P21 | exact P22 | exact P23)) | (apply Part.flat; simp only [List.cons_append, List.nil_append]) | (apply Part.nilc))) ?_
      have e : oneM fs u code K i c = ({ K3 with st := K3.st ++ [t3] }, code ++ [⟨c.op, c.imm, 0, 0⟩], typedM _) := oneM_plain (by omega) hpl (typedM_ne _)
      rw [e]
      refine ⟨ca1, cc1, cd1, _, rfl, ?_, isKm.intro (k := k) len1 rfl (len1 (K := K3) ▸ byte1 hst1) hop_, ?_⟩
      · simp
      · exact snocF hcd1

theorem sigM_len (op : Int) : (sigM op).1.length ≤ 1000 ∧ (sigM op).2.1.length ≤ 1000 := by
  unfold sigM; repeat' split
  all_goals simp

set_option maxHeartbeats 4000000 in
theorem pm_one_pln (pb k bf : Nat) (nv mnv mxv stv : Value) (fc : Nat) (fs : List Fm) (u : Fm) (la lb sp : List Value) (sa : Option Addr) (sc : Nat) (ca : Option Addr) (cc : Nat) (code : List Flat) (sv cd : Seg) (K : Km) (s : Seg) (i : Nat) (c : Ins)
    (hi : i < u.src.length) (hci : u.src[i] = c) (hs : Arr 87 3 sa u.src.length sc (codeV u.src) sv) (hcd : Arr 181 4 ca code.length cc (code.flatMap flatV) cd) (hm : isKm k K s) (hK : KB K) (hL : LabOk K u.src)
    (hsl : u.src.length ≤ 1000) (htab : ∀ c, c ∈ u.src → c.tab.length ≤ 5) (hcl : code.length ≤ 100000) (hpl : u.params.length ≤ 100 ∧ u.results.length ≤ 100 ∧ u.locals.length ≤ 100)
    (hfs : ∀ (g : Nat) (f : Fm), fs[g]? = some f → (la ++ rowM u sa sc ca code.length cc ++ lb)[g * 5]? = some (S f.params) ∧ (la ++ rowM u sa sc ca code.length cc ++ lb)[g * 5 + 1]? = some (S f.results) ∧ f.params.length ≤ 100 ∧ f.results.length ≤ 100) (hfl : fs.length ≤ 1000) (hw : well c = true) (hop : (15 ≤ c.op ∧ c.op ≤ 33) ∨ (40 ≤ c.op ∧ c.op < 56) ∨ (60 ≤ c.op ∧ c.op < 76)) : Spec Tryz.prog 73 [.pointer (some ⟨pb, 0, none⟩), .pointer (some ⟨k, 0, none⟩), .pointer (some ⟨bf, la.length, none⟩), I i] [blk pb 159 [nv, mnv, mxv, stv, .slice (some ⟨bf, 0, none⟩) fs.length fc], blk bf 164 (la ++ rowM u sa sc ca code.length cc ++ lb ++ sp), s, sv, cd] (Ret fun v H => ∃ ca' cc' cd' s', v = I (oneM fs u code K i c).2.2 ∧ H = [blk pb 159 [nv, mnv, mxv, stv, .slice (some ⟨bf, 0, none⟩) fs.length fc], blk bf 164 (la ++ rowM u sa sc ca' (oneM fs u code K i c).2.1.length cc' ++ lb ++ sp), s', sv, cd'] ∧ isKm k (oneM fs u code K i c).1 s' ∧ Arr 181 4 ca' (oneM fs u code K i c).2.1.length cc' ((oneM fs u code K i c).2.1.flatMap flatV) cd') := by
  have hp := hK.pos
  have hz1 := hK.st
  have hz2 := hK.cs
  refine Spec_enter Tryz.func73 rfl Tryz.ntmps73 rfl ?_
  show SP _ _ _ _ _ [(0, _), (1, _), (2, _), (3, _)] _
  refine SP_seq ?_
  refine SP_region ?_
  refine SPL_y (y_assign rfl) rfl ?_
  refine SPL_nil ?_
  refine thenP_n ?_
  refine SP_seq ?_
  obtain ⟨bs, sps, rfl, hsc, hsps, rfl⟩ := hs.row (by omega)
  refine SP_region ?_
  refine SPL_y (y_move rfl) rfl ?_
  refine SPL_y (y_nil rfl) rfl ?_
  refine SPL_y (y_fa fld_164_3 rfl) rfl ?_
  refine SPL_y (y_load Tryz.isAgg34 rfl (by repeat (first | exact row_cell (q := 3) rfl | apply Cell.tail))) rfl ?_
  refine SPL_y (y_move rfl) rfl ?_
  refine SPL_y (y_ia Tryz.underlying34 Tryz.sizeOf87 rfl rfl (by omega)) rfl ?_
  refine SPL_y (y_loads Tryz.isAgg87 Tryz.sizeOf87 rfl rfl (by repeat (first | exact flat_cellsE insV_len (i := i) rfl hi hci | apply Cells.tail))) rfl ?_
  refine SPL_one rfl (SP1_alloc Tryz.zeroValue87 rfl rfl ?_)
  intro b9
  refine SPL_one rfl (SP1_storeAll Tryz.sizeOf87 rfl rfl rfl rfl rfl (by first | exact U0 | exact U1 | exact U2 | exact U3 | exact U4 | exact U5 | exact U6 | exact U7 | exact U8 | exact U9 | exact U10 | exact U11 | exact U12 | exact U13 | exact U14 | exact U15 | exact U16 | exact U17 | exact U18 | exact U19 | exact U20 | exact U21 | exact U22 | exact U23) (by rfl) ?_)
  refine SPL_y (y_assign rfl) rfl ?_
  refine SPL_nil ?_
  refine thenP_n ?_
  refine SP_seq ?_
  refine SP_region ?_
  refine SPL_y (y_fa fld_87_0 rfl) rfl ?_
  refine SPL_y (y_load Tryz.isAgg3 rfl (by repeat (first | exact Cell.head rfl | apply Cell.tail))) rfl ?_
  refine SPL_y (y_fa fld_87_1 rfl) rfl ?_
  refine SPL_y (y_load Tryz.isAgg3 rfl (by repeat (first | exact Cell.head rfl | apply Cell.tail))) rfl ?_
  refine SPL_y (y_build B181 rfl rfl (by simp only [fillL, List.foldl_cons, List.foldl_nil, List.set_cons_zero, List.set_cons_succ]; exact rfl)) rfl ?_
  refine SPL_one rfl (SP1_alloc Tryz.zeroValue181 rfl rfl ?_)
  intro b11
  refine SPL_one rfl (SP1_storeAll Tryz.sizeOf181 rfl rfl rfl rfl rfl (by first | exact U0 | exact U1 | exact U2 | exact U3 | exact U4 | exact U5 | exact U6 | exact U7 | exact U8 | exact U9 | exact U10 | exact U11 | exact U12 | exact U13 | exact U14 | exact U15 | exact U16 | exact U17 | exact U18 | exact U19 | exact U20 | exact U21 | exact U22 | exact U23) (by rfl) ?_)
  refine SPL_nil ?_
  refine thenP_n ?_
  refine SP_seq ?_
  refine SP_draw 999 [(0, 0), (1, 0), (2, 0), (4, 0), (5, 0), (6, 0), (3, 1), (7, 1), (8, 0), (9, 0)] mixed (by kernel_rfl) (fun _ _ _ _ _ h => h) (Part.refl _) ?_
  refine SPO_p rfl (y_move rfl) rfl ?_
  refine SPO_p rfl (y_nil rfl) rfl ?_
  refine SPO_p rfl (y_fa fld_164_0 rfl) rfl ?_
  refine SPO_p rfl (y_move rfl) rfl ?_
  refine SPO_p rfl (y_nil rfl) rfl ?_
  refine SPO_p rfl (y_fa fld_164_2 rfl) rfl ?_
  refine SPO_h rfl (y_load Tryz.isAgg9 rfl (by repeat (first | exact row_cell (q := 0) rfl | apply Cell.tail))) rfl ?_
  refine SPO_h rfl (y_load Tryz.isAgg9 rfl (by repeat (first | exact row_cell (q := 2) rfl | apply Cell.tail))) rfl ?_
  refine SPO_p rfl (y_cat rfl rfl (by first | omega | (simp; omega))) rfl ?_
  refine SPO_p rfl (y_assign rfl) rfl ?_
  refine SPO_nil ?_
  refine thenP_n ?_
  refine SP_seq ?_
  refine SP_seq ?_
  refine SP_region ?_
  refine SPL_y (y_fa fld_87_0 rfl) rfl ?_
  refine SPL_y (y_load Tryz.isAgg3 rfl (by repeat (first | exact Cell.head rfl | apply Cell.tail))) rfl ?_
  refine SPL_nil ?_
  refine thenP_n ?_
  refine SP_block ?_
  refine SP_seq ?_
  refine SP_seq ?_
  refine SP_region ?_
  refine SPL_y (y_eqlF rfl rfl (by omega)) rfl ?_
  refine SPL_y (y_assign rfl) rfl ?_
  refine SPL_nil ?_
  refine thenP_n ?_
  refine SP_cond_f rfl ?_
  refine SP_seq ?_
  refine SP_region ?_
  refine SPL_y (y_eqlF rfl rfl (by omega)) rfl ?_
  refine SPL_y (y_assign rfl) rfl ?_
  refine SPL_nil ?_
  refine thenP_n ?_
  refine SP_cond_f rfl ?_
  refine SP_region ?_
  refine SPL_y (y_eqlF rfl rfl (by omega)) rfl ?_
  refine SPL_y (y_assign rfl) rfl ?_
  refine SPL_nil ?_
  refine thenP_n ?_
  refine SP_cond_f rfl ?_
  refine SP_seq ?_
  refine SP_region ?_
  refine SPL_y (y_eqlF rfl rfl (by omega)) rfl ?_
  refine SPL_y (y_assign rfl) rfl ?_
  refine SPL_nil ?_
  refine thenP_n ?_
  refine SP_cond_f rfl ?_
  refine SP_seq ?_
  refine SP_region ?_
  refine SPL_y (y_eqlF rfl rfl (by omega)) rfl ?_
  refine SPL_y (y_assign rfl) rfl ?_
  refine SPL_nil ?_
  refine thenP_n ?_
  refine SP_cond_f rfl ?_
  refine SP_seq ?_
  refine SP_seq ?_
  refine SP_region ?_
  refine SPL_y (y_eqlF rfl rfl (by omega)) rfl ?_
  refine SPL_y (y_assign rfl) rfl ?_
  refine SPL_nil ?_
  refine thenP_n ?_
  refine SP_cond_f rfl ?_
  refine SP_region ?_
  refine SPL_y (y_eqlF rfl rfl (by omega)) rfl ?_
  refine SPL_y (y_assign rfl) rfl ?_
  refine SPL_nil ?_
  refine thenP_n ?_
  refine SP_cond_f rfl ?_
  refine SP_seq ?_
  refine SP_region ?_
  refine SPL_y (y_eqlF rfl rfl (by omega)) rfl ?_
  refine SPL_y (y_assign rfl) rfl ?_
  refine SPL_nil ?_
  refine thenP_n ?_
  refine SP_cond_f rfl ?_
  refine SP_seq ?_
  refine SP_region ?_
  refine SPL_y (y_eqlF rfl rfl (by omega)) rfl ?_
  refine SPL_y (y_assign rfl) rfl ?_
  refine SPL_nil ?_
  refine thenP_n ?_
  refine SP_cond_f rfl ?_
  refine SP_seq ?_
  refine SP_region ?_
  refine SPL_y (y_eqlF rfl rfl (by omega)) rfl ?_
  refine SPL_y (y_assign rfl) rfl ?_
  refine SPL_nil ?_
  refine thenP_n ?_
  refine SP_cond_f rfl ?_
  refine SP_seq ?_
  refine SP_region ?_
  refine SPL_y (y_eqlF rfl rfl (by omega)) rfl ?_
  refine SPL_y (y_assign rfl) rfl ?_
  refine SPL_nil ?_
  refine thenP_n ?_
  refine SP_cond_f rfl ?_
  refine SP_seq ?_
  refine SP_region ?_
  refine SPL_y (y_eqlF rfl rfl (by omega)) rfl ?_
  refine SPL_y (y_assign rfl) rfl ?_
  refine SPL_nil ?_
  refine thenP_n ?_
  refine SP_cond_f rfl ?_
  refine SP_seq ?_
  refine SP_region ?_
  refine SPL_y (y_eqlF rfl rfl (by omega)) rfl ?_
  refine SPL_y (y_assign rfl) rfl ?_
  refine SPL_nil ?_
  refine thenP_n ?_
  refine SP_cond_f rfl ?_
  refine SP_seq ?_
  refine SP_seq ?_
  refine SP_region ?_
  refine SPL_y (y_eqlF rfl rfl (by omega)) rfl ?_
  refine SPL_y (y_assign rfl) rfl ?_
  refine SPL_nil ?_
  refine thenP_n ?_
  refine SP_cond_f rfl ?_
  refine SP_region ?_
  refine SPL_y (y_eqlF rfl rfl (by omega)) rfl ?_
  refine SPL_y (y_assign rfl) rfl ?_
  refine SPL_nil ?_
  refine thenP_n ?_
  refine SP_cond_f rfl ?_
  refine SP_seq ?_
  refine SP_region ?_
  refine SPL_y (y_fa fld_87_0 rfl) rfl ?_
  refine SPL_y (y_load Tryz.isAgg3 rfl (by repeat (first | exact Cell.head rfl | apply Cell.tail))) rfl ?_
  refine SPL_one rfl (SP1_call (pm_Sig c.op) Tryz.call103 rfl rfl (by repeat (first | exact Part.nil _ | (apply Part.cons; (first | exact P0 | exact P1 | exact P2 | exact P3 | exact P4 | exact P5 | exact P6 | exact P7 | exact P8 | exact P9 | exact P10 | exact P11 | exact P12 | exact P13 | exact P14 | exact P15 | exact P16 | exact P17 | exact P18 | exact P19 | exact P20 | exact P21 | exact P22 | exact P23)) | (apply Part.flat; simp only [List.cons_append, List.nil_append]) | (apply Part.nilc))) ?_)
  rintro v post H' ⟨rfl, rfl⟩ hH
  try simp only [List.cons_append, List.nil_append] at hH
  subst hH
  refine SPL_y (y_move rfl) rfl ?_
  refine SPL_y (y_ext rfl rfl) rfl ?_
  refine SPL_y (y_ext rfl rfl) rfl ?_
  refine SPL_y (y_ext rfl rfl) rfl ?_
  refine SPL_y (y_assign rfl) rfl ?_
  refine SPL_y (y_assign rfl) rfl ?_
  refine SPL_y (y_assign rfl) rfl ?_
  refine SPL_nil ?_
  refine thenP_n ?_
  refine SP_region ?_
  refine SPL_y (y_move rfl) rfl ?_
  refine SPL_y (y_move rfl) rfl ?_
  refine SPL_y (y_move rfl) rfl ?_
  refine SPL_one rfl (SP1_call (pm_swap k K s (sigM c.op).1 (sigM c.op).2.1 hm hK (sigM_len c.op).1 (sigM_len c.op).2) Tryz.call100 rfl rfl (by repeat (first | exact Part.nil _ | (apply Part.cons; (first | exact P0 | exact P1 | exact P2 | exact P3 | exact P4 | exact P5 | exact P6 | exact P7 | exact P8 | exact P9 | exact P10 | exact P11 | exact P12 | exact P13 | exact P14 | exact P15 | exact P16 | exact P17 | exact P18 | exact P19 | exact P20 | exact P21 | exact P22 | exact P23)) | (apply Part.flat; simp only [List.cons_append, List.nil_append]) | (apply Part.nilc))) ?_)
  rintro v post H' ⟨s1, rfl, rfl, hm1⟩ hH
  try simp only [List.cons_append, List.nil_append] at hH
  subst hH
  refine SPL_y (y_assign rfl) rfl ?_
  refine SPL_nil ?_
  refine inBlockP_n ?_
  refine thenP_n ?_
  refine SP_seq ?_
  refine SP_draw 7 [(0, 0), (1, 0), (2, 0), (3, 0), (4, 1), (5, 1), (6, 2), (7, 3), (8, 0), (9, 0), (10, 3)] mixed (by kernel_rfl) (fun _ _ _ _ _ h => h) (Part.refl _) ?_
  refine SPO_p rfl (y_move rfl) rfl ?_
  refine SPO_p rfl (y_move rfl) rfl ?_
  refine SPO_p rfl (y_nil rfl) rfl ?_
  refine SPO_p rfl (y_fa fld_164_4 rfl) rfl ?_
  refine SPO_h rfl (y_load Tryz.isAgg106 rfl (by repeat (first | exact row_cell (q := 4) rfl | apply Cell.tail))) rfl ?_
  refine SPO_h rfl (y_loads Tryz.isAgg181 Tryz.sizeOf181 rfl rfl (by repeat (first | exact Cells.all _ | exact Cells.head rfl | apply Cells.tail))) rfl ?_
  refine SPO_a rfl rfl (SP1_slice1 el_106 rfl rfl rfl rfl rfl ?_)
  intro b512
  refine ⟨⟨_, (by repeat (first | exact Part.nil _ | (apply Part.cons; (first | exact P0 | exact P1 | exact P2 | exact P3 | exact P4 | exact P5 | exact P6 | exact P7 | exact P8 | exact P9 | exact P10 | exact P11 | exact P12 | exact P13 | exact P14 | exact P15 | exact P16 | exact P17 | exact P18 | exact P19 | exact P20 | exact P21 | exact P22 | exact P23)) | (apply Part.flat; simp only [List.cons_append, List.nil_append]) | (apply Part.nilc)))⟩, ?_⟩
  refine SPO_z (k := 0) rfl rfl (SP1_append el_106 (.inl Tryz.underlying106) rfl rfl hcd (by first | exact P0 | exact P1 | exact P2 | exact P3 | exact P4 | exact P5 | exact P6 | exact P7 | exact P8 | exact P9 | exact P10 | exact P11 | exact P12 | exact P13 | exact P14 | exact P15 | exact P16 | exact P17 | exact P18 | exact P19 | exact P20 | exact P21 | exact P22 | exact P23) (Src.of (by repeat (first | exact Cells.all _ | exact Cells.head rfl | apply Cells.tail)) (by rfl)) (by rfl) (by omega) rfl ?_)
  intro ca1 cc1 cd1 hcd1
  refine SPO_p rfl (y_nil rfl) rfl ?_
  refine SPO_p rfl (y_fa fld_164_4 rfl) rfl ?_
  refine SPO_z (k := 0) rfl rfl (SP1_store Tryz.sizeOf106 rfl rfl rfl (by first | exact U0 | exact U1 | exact U2 | exact U3 | exact U4 | exact U5 | exact U6 | exact U7 | exact U8 | exact U9 | exact U10 | exact U11 | exact U12 | exact U13 | exact U14 | exact U15 | exact U16 | exact U17 | exact U18 | exact U19 | exact U20 | exact U21 | exact U22 | exact U23) (row_ble (r := rowM u (some ⟨bs, 0, none⟩) sc ca code.length cc) (q := 4) (show 4 < 5 by decide)) ?_)
  rw [row_set (r := rowM u (some ⟨bs, 0, none⟩) sc ca code.length cc) (q := 4) (show 4 < 5 by decide)]
  refine SPO_nil ?_
  refine thenP_n ?_
  refine SP_seq ?_
  refine SP_region ?_
  refine SPL_y (y_move rfl) rfl ?_
  refine SPL_one rfl (SP1_call (pm_typed _) Tryz.call95 rfl rfl (by repeat (first | exact Part.nil _ | (apply Part.cons; (first | exact P0 | exact P1 | exact P2 | exact P3 | exact P4 | exact P5 | exact P6 | exact P7 | exact P8 | exact P9 | exact P10 | exact P11 | exact P12 | exact P13 | exact P14 | exact P15 | exact P16 | exact P17 | exact P18 | exact P19 | exact P20 | exact P21 | exact P22 | exact P23)) | (apply Part.flat; simp only [List.cons_append, List.nil_append]) | (apply Part.nilc))) ?_)
  rintro v post H' ⟨rfl, rfl⟩ hH
  try simp only [List.cons_append, List.nil_append] at hH
  subst hH
  refine SPL_y (y_assign rfl) rfl ?_
  refine SPL_nil ?_
  refine thenP_n ?_
  refine SP_ret ?_
  refine bodyP_ret (H' := [blk pb 159 [nv, mnv, mxv, stv, .slice (some ⟨bf, 0, none⟩) fs.length fc], blk bf 164 (la ++ rowM u (some ⟨bs, 0, none⟩) sc ca1 (code.length + 1) cc1 ++ lb ++ sp), s1, blk bs 87 (codeV u.src ++ sps), cd1]) (Res1 rfl rfl) (by repeat (first | exact Part.nil _ | (apply Part.cons; (first | exact P0 | exact P1 | exact P2 | exact P3 | exact P4 | exact P5 | exact P6 | exact P7 | exact P8 | exact P9 | exact P10 | exact P11 | exact P12 | exact P13 | exact P14 | exact P15 | exact P16 | exact P17 | exact P18 | exact P19 | exact P20 | exact P21 | exact P22 | exact P23)) | (apply Part.flat; simp only [List.cons_append, List.nil_append]) | (apply Part.nilc))) ?_
  have e : oneM fs u code K i c = ((swapM K (sigM c.op).1 (sigM c.op).2.1).1, code ++ [⟨c.op, c.imm, 0, 0⟩], typedM (swapM K (sigM c.op).1 (sigM c.op).2.1).2) := oneM_plain (by omega) (by unfold plainM; rw [if_neg (by omega), if_neg (by omega), if_neg (by omega), if_neg (by omega), if_neg (by omega), if_neg (by omega)]) (typedM_ne _)
  rw [e]
  refine ⟨ca1, cc1, cd1, s1, rfl, ?_, hm1, ?_⟩
  · simp
  · exact snocF hcd1

end Go.Sl
