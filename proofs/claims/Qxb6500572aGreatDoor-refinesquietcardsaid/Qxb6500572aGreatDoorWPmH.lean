/- Walks: package prepm, the readers (made by program out of short notes) -/
import Derived.Test.Qxb6500572aGreatDoorMC
namespace Go.Sl
open Go Go.Wl Go.Proofs
set_option maxRecDepth 100000
set_option linter.unusedVariables false
set_option linter.unusedSimpArgs false
theorem well_ops {c : Ins} (h : well c = true) : c.op = 0 ∨ c.op = 1 ∨ c.op = 2 ∨ c.op = 3 ∨ c.op = 4 ∨ c.op = 5 ∨ c.op = 6 ∨ c.op = 7 ∨ c.op = 8 ∨ c.op = 9 ∨ c.op = 10 ∨ c.op = 11 ∨ c.op = 12 ∨ c.op = 13 ∨ c.op = 14 ∨ ((15 ≤ c.op ∧ c.op ≤ 33) ∨ (40 ≤ c.op ∧ c.op < 56) ∨ (60 ≤ c.op ∧ c.op < 76)) := by
  have hwp : wellP c.op c.imm c.tab.length := by unfold well at h; simpa using h
  unfold wellP at hwp
  omega
theorem pm_one (pb k bf : Nat) (nv mnv mxv stv : Value) (fc : Nat) (fs : List Fm) (u : Fm) (la lb sp : List Value) (sa : Option Addr) (sc : Nat) (ca : Option Addr) (cc : Nat) (code : List Flat) (sv cd : Seg) (K : Km) (s : Seg) (i : Nat) (c : Ins)
    (hi : i < u.src.length) (hci : u.src[i] = c) (hs : Arr 87 3 sa u.src.length sc (codeV u.src) sv) (hcd : Arr 181 4 ca code.length cc (code.flatMap flatV) cd) (hm : isKm k K s) (hK : KB K) (hL : LabOk K u.src)
    (hsl : u.src.length ≤ 1000) (htab : ∀ c, c ∈ u.src → c.tab.length ≤ 5) (hcl : code.length ≤ 100000) (hpl : u.params.length ≤ 100 ∧ u.results.length ≤ 100 ∧ u.locals.length ≤ 100)
    (hfs : ∀ (g : Nat) (f : Fm), fs[g]? = some f → (la ++ rowM u sa sc ca code.length cc ++ lb)[g * 5]? = some (S f.params) ∧ (la ++ rowM u sa sc ca code.length cc ++ lb)[g * 5 + 1]? = some (S f.results) ∧ f.params.length ≤ 100 ∧ f.results.length ≤ 100) (hfl : fs.length ≤ 1000) (hw : well c = true) (hat : c.op = 4 → 0 ≤ K.top.at_) : Spec Tryz.prog 73 [.pointer (some ⟨pb, 0, none⟩), .pointer (some ⟨k, 0, none⟩), .pointer (some ⟨bf, la.length, none⟩), I i] [blk pb 159 [nv, mnv, mxv, stv, .slice (some ⟨bf, 0, none⟩) fs.length fc], blk bf 164 (la ++ rowM u sa sc ca code.length cc ++ lb ++ sp), s, sv, cd] (Ret fun v H => ∃ ca' cc' cd' s', v = I (oneM fs u code K i c).2.2 ∧ H = [blk pb 159 [nv, mnv, mxv, stv, .slice (some ⟨bf, 0, none⟩) fs.length fc], blk bf 164 (la ++ rowM u sa sc ca' (oneM fs u code K i c).2.1.length cc' ++ lb ++ sp), s', sv, cd'] ∧ isKm k (oneM fs u code K i c).1 s' ∧ Arr 181 4 ca' (oneM fs u code K i c).2.1.length cc' ((oneM fs u code K i c).2.1.flatMap flatV) cd') := by
  rcases well_ops hw with h | h | h | h | h | h | h | h | h | h | h | h | h | h | h | h
  · exact pm_one_unr pb k bf nv mnv mxv stv fc fs u la lb sp sa sc ca cc code sv cd K s i c hi hci hs hcd hm hK hL hsl htab hcl hpl hfs hfl hw h
  · exact pm_one_blk1 pb k bf nv mnv mxv stv fc fs u la lb sp sa sc ca cc code sv cd K s i c hi hci hs hcd hm hK hL hsl htab hcl hpl hfs hfl hw h
  · exact pm_one_blk2 pb k bf nv mnv mxv stv fc fs u la lb sp sa sc ca cc code sv cd K s i c hi hci hs hcd hm hK hL hsl htab hcl hpl hfs hfl hw h
  · exact pm_one_if pb k bf nv mnv mxv stv fc fs u la lb sp sa sc ca cc code sv cd K s i c hi hci hs hcd hm hK hL hsl htab hcl hpl hfs hfl hw h
  · exact pm_one_else pb k bf nv mnv mxv stv fc fs u la lb sp sa sc ca cc code sv cd K s i c hi hci hs hcd hm hK hL hsl htab hcl hpl hfs hfl hw h (hat h)
  · exact pm_one_end pb k bf nv mnv mxv stv fc fs u la lb sp sa sc ca cc code sv cd K s i c hi hci hs hcd hm hK hL hsl htab hcl hpl hfs hfl hw h
  · exact pm_one_br pb k bf nv mnv mxv stv fc fs u la lb sp sa sc ca cc code sv cd K s i c hi hci hs hcd hm hK hL hsl htab hcl hpl hfs hfl hw h
  · exact pm_one_brif pb k bf nv mnv mxv stv fc fs u la lb sp sa sc ca cc code sv cd K s i c hi hci hs hcd hm hK hL hsl htab hcl hpl hfs hfl hw h
  · exact pm_one_table pb k bf nv mnv mxv stv fc fs u la lb sp sa sc ca cc code sv cd K s i c hi hci hs hcd hm hK hL hsl htab hcl hpl hfs hfl hw h
  · exact pm_one_ret pb k bf nv mnv mxv stv fc fs u la lb sp sa sc ca cc code sv cd K s i c hi hci hs hcd hm hK hL hsl htab hcl hpl hfs hfl hw h
  · exact pm_one_call pb k bf nv mnv mxv stv fc fs u la lb sp sa sc ca cc code sv cd K s i c hi hci hs hcd hm hK hL hsl htab hcl hpl hfs hfl hw h
  · exact pm_one_drop pb k bf nv mnv mxv stv fc fs u la lb sp sa sc ca cc code sv cd K s i c hi hci hs hcd hm hK hL hsl htab hcl hpl hfs hfl hw h
  · exact pm_one_sel pb k bf nv mnv mxv stv fc fs u la lb sp sa sc ca cc code sv cd K s i c hi hci hs hcd hm hK hL hsl htab hcl hpl hfs hfl hw h
  · exact pm_one_get pb k bf nv mnv mxv stv fc fs u la lb sp sa sc ca cc code sv cd K s i c hi hci hs hcd hm hK hL hsl htab hcl hpl hfs hfl hw h
  · exact pm_one_set pb k bf nv mnv mxv stv fc fs u la lb sp sa sc ca cc code sv cd K s i c hi hci hs hcd hm hK hL hsl htab hcl hpl hfs hfl hw h
  · exact pm_one_pln pb k bf nv mnv mxv stv fc fs u la lb sp sa sc ca cc code sv cd K s i c hi hci hs hcd hm hK hL hsl htab hcl hpl hfs hfl hw h

theorem pm_oneN (pb k bf : Nat) (nv mnv mxv stv : Value) (fc : Nat) (fs : List Fm) (u : Fm) (la lb sp : List Value) (sa : Option Addr) (sc : Nat) (ca : Option Addr) (cc : Nat) (code : List Flat) (sv cd : Seg) (K : Km) (s : Seg) (i : Nat) (c : Ins)
    (hi : i < u.src.length) (hci : u.src[i] = c) (hs : Arr 87 3 sa u.src.length sc (codeV u.src) sv) (hcd : Arr 181 4 ca code.length cc (code.flatMap flatV) cd) (hm : isKm k K s) (hK : KB K) (hL : LabOk K u.src)
    (hsl : u.src.length ≤ 1000) (htab : ∀ c, c ∈ u.src → c.tab.length ≤ 5) (hcl : code.length ≤ 100000) (hpl : u.params.length ≤ 100 ∧ u.results.length ≤ 100 ∧ u.locals.length ≤ 100)
    (hfs : ∀ (g : Nat) (f : Fm), fs[g]? = some f → (la ++ rowM u sa sc ca code.length cc ++ lb)[g * 5]? = some (S f.params) ∧ (la ++ rowM u sa sc ca code.length cc ++ lb)[g * 5 + 1]? = some (S f.results) ∧ f.params.length ≤ 100 ∧ f.results.length ≤ 100) (hfl : fs.length ≤ 1000) (hw : well c = true) (hat : c.op = 4 → 0 ≤ K.top.at_) (nf : Nat) (hnf : fs.length = nf) : Spec Tryz.prog 73 [.pointer (some ⟨pb, 0, none⟩), .pointer (some ⟨k, 0, none⟩), .pointer (some ⟨bf, la.length, none⟩), I i] [blk pb 159 [nv, mnv, mxv, stv, .slice (some ⟨bf, 0, none⟩) nf fc], blk bf 164 (la ++ rowM u sa sc ca code.length cc ++ lb ++ sp), s, sv, cd] (Ret fun v H => ∃ ca' cc' cd' s', v = I (oneM fs u code K i c).2.2 ∧ H = [blk pb 159 [nv, mnv, mxv, stv, .slice (some ⟨bf, 0, none⟩) nf fc], blk bf 164 (la ++ rowM u sa sc ca' (oneM fs u code K i c).2.1.length cc' ++ lb ++ sp), s', sv, cd'] ∧ isKm k (oneM fs u code K i c).1 s' ∧ Arr 181 4 ca' (oneM fs u code K i c).2.1.length cc' ((oneM fs u code K i c).2.1.flatMap flatV) cd') := by
  subst hnf
  exact pm_one pb k bf nv mnv mxv stv fc fs u la lb sp sa sc ca cc code sv cd K s i c hi hci hs hcd hm hK hL hsl htab hcl hpl hfs hfl hw hat

theorem pm_Mem (pb : Nat) (fa : Option Addr) (P : Pm) (steps : Int) (s : Seg) (hm : isPm pb fa P steps s) : Spec Tryz.prog 44 [.pointer (some ⟨pb, 0, none⟩)] [s] (Ret fun v H => v = .tuple #[I P.min, I P.max] ∧ H = [s]) := by
  obtain ⟨fc, sf, sc, cs, rfl, hf, hfn⟩ := hm
  refine Spec_flat ?_
  simp only [List.cons_append, List.nil_append]
  refine Spec_enter Tryz.func44 rfl Tryz.ntmps44 rfl ?_
  show SP _ _ _ _ _ [(0, _)] _
  refine SP_seq ?_
  refine SP_region ?_
  refine SPL_y (y_assign rfl) rfl ?_
  refine SPL_y (y_assign rfl) rfl ?_
  refine SPL_nil ?_
  refine thenP_n ?_
  refine SP_seq ?_
  refine SP_draw 999 [(0, 0), (1, 0), (2, 0), (4, 0), (5, 0), (6, 0), (3, 1), (8, 0), (7, 1), (9, 0)] mixed (by kernel_rfl) (fun _ _ _ _ _ h => h) (Part.refl _) ?_
  refine SPO_p rfl (y_move rfl) rfl ?_
  refine SPO_p rfl (y_nil rfl) rfl ?_
  refine SPO_p rfl (y_fa fld_159_1 rfl) rfl ?_
  refine SPO_p rfl (y_move rfl) rfl ?_
  refine SPO_p rfl (y_nil rfl) rfl ?_
  refine SPO_p rfl (y_fa fld_159_2 rfl) rfl ?_
  refine SPO_h rfl (y_load Tryz.isAgg3 rfl (by repeat (first | exact Cell.head rfl | apply Cell.tail))) rfl ?_
  refine SPO_p rfl (y_assign rfl) rfl ?_
  refine SPO_h rfl (y_load Tryz.isAgg3 rfl (by repeat (first | exact Cell.head rfl | apply Cell.tail))) rfl ?_
  refine SPO_p rfl (y_assign rfl) rfl ?_
  refine SPO_nil ?_
  refine thenP_n ?_
  refine SP_ret ?_
  refine bodyP_ret (H' := [List.flatten [blk pb 159 [I P.nimp, I P.min, I P.max, I steps, .slice fa P.funs.length fc], sf, sc]]) (Res2 rfl rfl rfl) (by repeat (first | exact Part.nil _ | (apply Part.cons; (first | exact P0 | exact P1 | exact P2 | exact P3 | exact P4 | exact P5 | exact P6 | exact P7 | exact P8 | exact P9 | exact P10 | exact P11 | exact P12 | exact P13 | exact P14 | exact P15 | exact P16 | exact P17 | exact P18 | exact P19 | exact P20 | exact P21 | exact P22 | exact P23)) | (apply Part.flat; simp only [List.cons_append, List.nil_append]) | (apply Part.nilc))) ?_
  exact ⟨rfl, rfl⟩

theorem pm_NImports (pb : Nat) (fa : Option Addr) (P : Pm) (steps : Int) (s : Seg) (hm : isPm pb fa P steps s) : Spec Tryz.prog 105 [.pointer (some ⟨pb, 0, none⟩)] [s] (Ret fun v H => v = I P.nimp ∧ H = [s]) := by
  obtain ⟨fc, sf, sc, cs, rfl, hf, hfn⟩ := hm
  refine Spec_flat ?_
  simp only [List.cons_append, List.nil_append]
  refine Spec_enter Tryz.func105 rfl Tryz.ntmps105 rfl ?_
  show SP _ _ _ _ _ [(0, _)] _
  refine SP_seq ?_
  refine SP_region ?_
  refine SPL_y (y_assign rfl) rfl ?_
  refine SPL_nil ?_
  refine thenP_n ?_
  refine SP_seq ?_
  refine SP_region ?_
  refine SPL_y (y_move rfl) rfl ?_
  refine SPL_y (y_nil rfl) rfl ?_
  refine SPL_y (y_fa fld_159_0 rfl) rfl ?_
  refine SPL_y (y_load Tryz.isAgg3 rfl (by repeat (first | exact Cell.head rfl | apply Cell.tail))) rfl ?_
  refine SPL_y (y_assign rfl) rfl ?_
  refine SPL_nil ?_
  refine thenP_n ?_
  refine SP_ret ?_
  refine bodyP_ret (H' := [List.flatten [blk pb 159 [I P.nimp, I P.min, I P.max, I steps, .slice fa P.funs.length fc], sf, sc]]) (Res1 rfl rfl) (by repeat (first | exact Part.nil _ | (apply Part.cons; (first | exact P0 | exact P1 | exact P2 | exact P3 | exact P4 | exact P5 | exact P6 | exact P7 | exact P8 | exact P9 | exact P10 | exact P11 | exact P12 | exact P13 | exact P14 | exact P15 | exact P16 | exact P17 | exact P18 | exact P19 | exact P20 | exact P21 | exact P22 | exact P23)) | (apply Part.flat; simp only [List.cons_append, List.nil_append]) | (apply Part.nilc))) ?_
  exact ⟨rfl, rfl⟩

theorem pm_SigP (pb : Nat) (fa : Option Addr) (P : Pm) (steps : Int) (s : Seg) (hm : isPm pb fa P steps s) (f : Int) (hfl : P.funs.length ≤ 1000) : Spec Tryz.prog 104 [.pointer (some ⟨pb, 0, none⟩), I f] [s] (Ret fun v H => v = .tuple #[S (P.sig f).1, S (P.sig f).2.1, S (P.sig f).2.2.1, .bool (P.sig f).2.2.2] ∧ H = [s]) := by
  obtain ⟨fc, sf, sc, cs, rfl, hf, hfn⟩ := hm
  refine Spec_flat ?_
  simp only [List.cons_append, List.nil_append]
  refine Spec_enter Tryz.func104 rfl Tryz.ntmps104 rfl ?_
  show SP _ _ _ _ _ [(0, _), (1, _)] _
  refine SP_seq ?_
  refine SP_region ?_
  refine SPL_y (y_assign rfl) rfl ?_
  refine SPL_y (y_assign rfl) rfl ?_
  refine SPL_y (y_assign rfl) rfl ?_
  refine SPL_y (y_assign rfl) rfl ?_
  refine SPL_nil ?_
  refine thenP_n ?_
  refine SP_seq ?_
  refine SP_seq ?_
  refine SP_region ?_
  refine SPL_y (y_move rfl) rfl ?_
  refine SPL_if (y_lss rfl rfl) rfl ?_ ?_
  · intro h1_1
    refine SPL_y (y_move rfl) rfl ?_
    refine SPL_gn rfl rfl rfl rfl ?_
    refine SPL_gn rfl rfl rfl rfl ?_
    refine SPL_gn rfl rfl rfl rfl ?_
    refine SPL_gn rfl rfl rfl rfl ?_
    refine SPL_gn rfl rfl rfl rfl ?_
    refine SPL_gn rfl rfl rfl rfl ?_
    refine SPL_gn rfl rfl rfl rfl ?_
    refine SPL_y (y_pick_t rfl rfl) rfl ?_
    refine SPL_nil ?_
    refine thenP_n ?_
    refine SP_cond_t rfl ?_
    refine SP_seq ?_
    refine SP_region ?_
    refine SPL_y (y_assign rfl) rfl ?_
    refine SPL_y (y_assign rfl) rfl ?_
    refine SPL_y (y_assign rfl) rfl ?_
    refine SPL_y (y_assign rfl) rfl ?_
    refine SPL_nil ?_
    refine thenP_n ?_
    refine SP_ret ?_
    refine thenP_ret (bodyP_ret (H' := [List.flatten [blk pb 159 [I P.nimp, I P.min, I P.max, I steps, .slice fa P.funs.length fc], sf, sc]]) (Res4 rfl rfl rfl rfl rfl) (by repeat (first | exact Part.nil _ | (apply Part.cons; (first | exact P0 | exact P1 | exact P2 | exact P3 | exact P4 | exact P5 | exact P6 | exact P7 | exact P8 | exact P9 | exact P10 | exact P11 | exact P12 | exact P13 | exact P14 | exact P15 | exact P16 | exact P17 | exact P18 | exact P19 | exact P20 | exact P21 | exact P22 | exact P23)) | (apply Part.flat; simp only [List.cons_append, List.nil_append]) | (apply Part.nilc))) ?_)
    have e : P.sig f = ([], [], [], false) := by unfold Pm.sig; rw [if_pos (by omega)]
    rw [e]
    exact ⟨rfl, rfl⟩
  intro h1_1
  refine SPL_y (y_move rfl) rfl ?_
  refine SPL_gy rfl rfl ?_
  refine SPL_y (y_move rfl) rfl ?_
  refine SPL_gy rfl rfl ?_
  refine SPL_y (y_move rfl) rfl ?_
  refine SPL_gy rfl rfl ?_
  refine SPL_y (y_nil rfl) rfl ?_
  refine SPL_gy rfl rfl ?_
  refine SPL_y (y_fa fld_159_4 rfl) rfl ?_
  refine SPL_gy rfl rfl ?_
  refine SPL_y (y_load Tryz.isAgg157 rfl (by repeat (first | exact Cell.head rfl | apply Cell.tail))) rfl ?_
  refine SPL_gy rfl rfl ?_
  refine SPL_y (y_len_l Tryz.underlying157 rfl) rfl ?_
  refine SPL_gy rfl rfl ?_
  refine SPL_if (y_geq rfl rfl) rfl ?_ ?_
  · intro h1_9
    refine SPL_y (y_pick_f rfl rfl) rfl ?_
    refine SPL_nil ?_
    refine thenP_n ?_
    refine SP_cond_t rfl ?_
    refine SP_seq ?_
    refine SP_region ?_
    refine SPL_y (y_assign rfl) rfl ?_
    refine SPL_y (y_assign rfl) rfl ?_
    refine SPL_y (y_assign rfl) rfl ?_
    refine SPL_y (y_assign rfl) rfl ?_
    refine SPL_nil ?_
    refine thenP_n ?_
    refine SP_ret ?_
    refine thenP_ret (bodyP_ret (H' := [List.flatten [blk pb 159 [I P.nimp, I P.min, I P.max, I steps, .slice fa P.funs.length fc], sf, sc]]) (Res4 rfl rfl rfl rfl rfl) (by repeat (first | exact Part.nil _ | (apply Part.cons; (first | exact P0 | exact P1 | exact P2 | exact P3 | exact P4 | exact P5 | exact P6 | exact P7 | exact P8 | exact P9 | exact P10 | exact P11 | exact P12 | exact P13 | exact P14 | exact P15 | exact P16 | exact P17 | exact P18 | exact P19 | exact P20 | exact P21 | exact P22 | exact P23)) | (apply Part.flat; simp only [List.cons_append, List.nil_append]) | (apply Part.nilc))) ?_)
    have e : P.sig f = ([], [], [], false) := by unfold Pm.sig; rw [if_pos (by omega)]
    rw [e]
    exact ⟨rfl, rfl⟩
  intro h1_9
  refine SPL_y (y_pick_f rfl rfl) rfl ?_
  refine SPL_nil ?_
  refine thenP_n ?_
  refine SP_cond_f rfl ?_
  refine SP_skip ?_
  refine thenP_n ?_
  refine SP_seq ?_
  obtain ⟨u, hu⟩ : ∃ u, P.funs[f.toNat]? = some u := ⟨_, List.getElem?_eq_getElem (by omega)⟩
  obtain ⟨hg0, hg1, hg2⟩ := hfn.sig hu
  obtain ⟨bf, spf, rfl, hfc, hspf, rfl⟩ := hf.row (by omega)
  refine SP_draw 999 [(0, 0), (1, 0), (2, 0), (4, 0), (8, 0), (9, 0), (10, 0), (12, 0), (16, 0), (17, 0), (18, 0), (20, 0), (3, 1), (5, 0), (6, 0), (7, 1), (24, 0), (11, 1), (13, 0), (14, 0), (15, 1), (25, 0), (19, 1), (21, 0), (22, 0), (23, 1), (26, 0), (27, 0)] mixed (by kernel_rfl) (fun _ _ _ _ _ h => h) (Part.refl _) ?_
  refine SPO_p rfl (y_move rfl) rfl ?_
  refine SPO_p rfl (y_nil rfl) rfl ?_
  refine SPO_p rfl (y_fa fld_159_4 rfl) rfl ?_
  refine SPO_p rfl (y_move rfl) rfl ?_
  refine SPO_p rfl (y_move rfl) rfl ?_
  refine SPO_p rfl (y_nil rfl) rfl ?_
  refine SPO_p rfl (y_fa fld_159_4 rfl) rfl ?_
  refine SPO_p rfl (y_move rfl) rfl ?_
  refine SPO_p rfl (y_move rfl) rfl ?_
  refine SPO_p rfl (y_nil rfl) rfl ?_
  refine SPO_p rfl (y_fa fld_159_4 rfl) rfl ?_
  refine SPO_p rfl (y_move rfl) rfl ?_
  refine SPO_h rfl (y_load Tryz.isAgg157 rfl (by repeat (first | exact Cell.head rfl | apply Cell.tail))) rfl ?_
  refine SPO_p rfl (y_ia Tryz.underlying157 Tryz.sizeOf164 rfl rfl (by omega)) rfl ?_
  refine SPO_p rfl (y_fa fld_164_0 rfl) rfl ?_
  refine SPO_h rfl (y_load Tryz.isAgg9 rfl (by repeat (first | exact row_cellx (show _ = _ by rw [Nat.zero_add, Nat.add_zero]; exact hg0) | apply Cell.tail))) rfl ?_
  refine SPO_p rfl (y_assign rfl) rfl ?_
  refine SPO_h rfl (y_load Tryz.isAgg157 rfl (by repeat (first | exact Cell.head rfl | apply Cell.tail))) rfl ?_
  refine SPO_p rfl (y_ia Tryz.underlying157 Tryz.sizeOf164 rfl rfl (by omega)) rfl ?_
  refine SPO_p rfl (y_fa fld_164_1 rfl) rfl ?_
  refine SPO_h rfl (y_load Tryz.isAgg9 rfl (by repeat (first | exact row_cellx (show _ = _ by rw [Nat.zero_add]; exact hg1) | apply Cell.tail))) rfl ?_
  refine SPO_p rfl (y_assign rfl) rfl ?_
  refine SPO_h rfl (y_load Tryz.isAgg157 rfl (by repeat (first | exact Cell.head rfl | apply Cell.tail))) rfl ?_
  refine SPO_p rfl (y_ia Tryz.underlying157 Tryz.sizeOf164 rfl rfl (by omega)) rfl ?_
  refine SPO_p rfl (y_fa fld_164_2 rfl) rfl ?_
  refine SPO_h rfl (y_load Tryz.isAgg9 rfl (by repeat (first | exact row_cellx (show _ = _ by rw [Nat.zero_add]; exact hg2) | apply Cell.tail))) rfl ?_
  refine SPO_p rfl (y_assign rfl) rfl ?_
  refine SPO_p rfl (y_assign rfl) rfl ?_
  refine SPO_nil ?_
  refine thenP_n ?_
  refine SP_ret ?_
  refine bodyP_ret (H' := [List.flatten [blk pb 159 [I P.nimp, I P.min, I P.max, I steps, .slice (some ⟨bf, 0, none⟩) P.funs.length fc], blk bf 164 (cs ++ spf), sc]]) (Res4 rfl rfl rfl rfl rfl) (by repeat (first | exact Part.nil _ | (apply Part.cons; (first | exact P0 | exact P1 | exact P2 | exact P3 | exact P4 | exact P5 | exact P6 | exact P7 | exact P8 | exact P9 | exact P10 | exact P11 | exact P12 | exact P13 | exact P14 | exact P15 | exact P16 | exact P17 | exact P18 | exact P19 | exact P20 | exact P21 | exact P22 | exact P23)) | (apply Part.flat; simp only [List.cons_append, List.nil_append]) | (apply Part.nilc))) ?_
  have e : P.sig f = (u.params, u.results, u.locals, true) := by unfold Pm.sig; rw [if_neg (by omega), hu]
  rw [e]
  exact ⟨rfl, rfl⟩

end Go.Sl
