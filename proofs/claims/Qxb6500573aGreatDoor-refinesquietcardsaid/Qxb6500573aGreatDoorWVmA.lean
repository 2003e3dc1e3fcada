/- Walks: package vm, panics, the stack, the fuel (made by program out of short notes) -/
import Derived.Test.Qxb6500573aGreatDoorAW
namespace Go.Sl
open Go Go.Wl Go.Proofs
set_option maxRecDepth 100000
set_option linter.unusedVariables false
set_option linter.unusedSimpArgs false
theorem vm_stop (e : Int) : Spec Tryz.prog 260 [I e] [] (RetP (fun _ _ => False) (fun c H => c = [{ v := .iface 336 (I e), recovered := false }] ∧ H = [])) := by
  refine Spec_enter Tryz.func260 rfl Tryz.ntmps260 rfl ?_
  show SP _ _ _ _ _ [(0, _)] _
  refine SP_region ?_
  refine SPL_y (y_move rfl) rfl ?_
  refine SPL_y (y_mki Tryz.underlying336 rfl rfl) rfl ?_
  refine SPL_one rfl (SP1_panic rfl ?_)
  refine bodyP_panic (H' := []) (by repeat (first | exact Part.nil _ | (apply Part.cons; with_reducible (first | exact P0 | exact P1 | exact P2 | exact P3 | exact P4 | exact P5 | exact P6 | exact P7 | exact P8 | exact P9 | exact P10 | exact P11 | exact P12 | exact P13 | exact P14 | exact P15 | exact P16 | exact P17 | exact P18 | exact P19 | exact P20 | exact P21 | exact P22 | exact P23)) | (apply Part.flat; simp only [List.cons_append, List.nil_append]) | (apply Part.cons; (first | exact P0 | exact P1 | exact P2 | exact P3 | exact P4 | exact P5 | exact P6 | exact P7 | exact P8 | exact P9 | exact P10 | exact P11 | exact P12 | exact P13 | exact P14 | exact P15 | exact P16 | exact P17 | exact P18 | exact P19 | exact P20 | exact P21 | exact P22 | exact P23)) | (apply Part.nilc))) ?_
  exact ⟨rfl, rfl⟩

theorem vm_raise (s : List UInt8) : Spec Tryz.prog 281 [S s] [] (RetP (fun _ _ => False) (fun c H => ∃ bb, c = [{ v := .iface 332 (pt bb), recovered := false }] ∧ H = [blk bb 335 (valV (strV s))])) := by
  refine Spec_enter Tryz.func281 rfl Tryz.ntmps281 rfl ?_
  show SP _ _ _ _ _ [(0, _)] _
  refine SP_region ?_
  refine SPL_y (y_move rfl) rfl ?_
  refine SPL_y (y_build B42 rfl rfl (by simp only [fillL, List.foldl_cons, List.foldl_nil, List.set_cons_zero, List.set_cons_succ]; exact rfl)) rfl ?_
  refine SPL_y (y_buildN (l := (valV (strV s))) BN335 rfl rfl) rfl ?_
  refine SPL_one rfl (SP1_box rfl rfl rfl ?_)
  intro b5
  refine SPL_y (y_mki Tryz.underlying332 rfl rfl) rfl ?_
  refine SPL_one rfl (SP1_panic rfl ?_)
  refine bodyP_panic (H' := [blk b5 335 (valV (strV s))]) (by repeat (first | exact Part.nil _ | (apply Part.cons; with_reducible (first | exact P0 | exact P1 | exact P2 | exact P3 | exact P4 | exact P5 | exact P6 | exact P7 | exact P8 | exact P9 | exact P10 | exact P11 | exact P12 | exact P13 | exact P14 | exact P15 | exact P16 | exact P17 | exact P18 | exact P19 | exact P20 | exact P21 | exact P22 | exact P23)) | (apply Part.flat; simp only [List.cons_append, List.nil_append]) | (apply Part.cons; (first | exact P0 | exact P1 | exact P2 | exact P3 | exact P4 | exact P5 | exact P6 | exact P7 | exact P8 | exact P9 | exact P10 | exact P11 | exact P12 | exact P13 | exact P14 | exact P15 | exact P16 | exact P17 | exact P18 | exact P19 | exact P20 | exact P21 | exact P22 | exact P23)) | (apply Part.nilc))) ?_
  exact ⟨b5, rfl, rfl⟩

theorem vm_throw (x : V) : Spec Tryz.prog 302 [.agg (valV x).toArray] [] (RetP (fun _ _ => False) (fun c H => ∃ bb, c = [{ v := .iface 332 (pt bb), recovered := false }] ∧ H = [blk bb 335 (valV x)])) := by
  refine Spec_enter Tryz.func302 rfl Tryz.ntmps302 rfl ?_
  show SP _ _ _ _ _ [(0, _)] _
  refine SP_seq ?_
  refine SP_region ?_
  refine SPL_one rfl (SP1_box rfl rfl rfl ?_)
  intro b1
  refine SPL_nil ?_
  refine thenP_n ?_
  refine SP_region ?_
  refine SPL_y (y_loads Tryz.isAgg42 Tryz.sizeOf42 rfl rfl (by repeat (first | exact Cells.all _ | exact Cells.amid hpre rfl (by decide) | exact Cells.head rfl | apply Cells.tail))) rfl ?_
  refine SPL_y (y_buildN (l := (valV x)) BN335 rfl rfl) rfl ?_
  refine SPL_one rfl (SP1_box rfl rfl rfl ?_)
  intro b4
  refine SPL_y (y_mki Tryz.underlying332 rfl rfl) rfl ?_
  refine SPL_one rfl (SP1_panic rfl ?_)
  refine bodyP_panic (H' := [blk b4 335 (valV x)]) (by repeat (first | exact Part.nil _ | (apply Part.cons; with_reducible (first | exact P0 | exact P1 | exact P2 | exact P3 | exact P4 | exact P5 | exact P6 | exact P7 | exact P8 | exact P9 | exact P10 | exact P11 | exact P12 | exact P13 | exact P14 | exact P15 | exact P16 | exact P17 | exact P18 | exact P19 | exact P20 | exact P21 | exact P22 | exact P23)) | (apply Part.flat; simp only [List.cons_append, List.nil_append]) | (apply Part.cons; (first | exact P0 | exact P1 | exact P2 | exact P3 | exact P4 | exact P5 | exact P6 | exact P7 | exact P8 | exact P9 | exact P10 | exact P11 | exact P12 | exact P13 | exact P14 | exact P15 | exact P16 | exact P17 | exact P18 | exact P19 | exact P20 | exact P21 | exact P22 | exact P23)) | (apply Part.nilc))) ?_
  exact ⟨b4, rfl, rfl⟩

theorem valV_one (l : List V) : (l.flatMap valV).all Value.oneCell' = true := by
  induction l with
  | nil => rfl
  | cons x l ih => rw [List.flatMap_cons, List.all_append, ih, Bool.and_true]; rfl
theorem vm_push (b : VB) (ph : PH) (hh : List TH) {m : VM} {m' : VM} {th : Nat} {l : List V} (bl : Nat) (hP : pushM th l m = some m') (seg : Seg) (hM : isVM b ph hh m seg) : Spec Tryz.prog 142 [tp b th, .slice (some ⟨bl, 0, none⟩) l.length l.length] [seg, blk bl 42 (l.flatMap valV)] (Ret (vOkK b ph hh m' (.tuple #[]))) := by
  unfold pushM getT at hP
  obtain ⟨t, ht, hP⟩ := bnd1 hP
  obtain ⟨g, hg⟩ : ∃ g, hh[th]? = some g := by obtain ⟨g, _, _, hg, _⟩ := hM.thr ht; exact ⟨g, hg⟩
  have hlen : t.stack.length + l.length ≤ 1000000 := Decidable.byContradiction fun q => by rw [if_neg q] at hP; cases hP
  rw [if_pos hlen] at hP
  injection hP with hP
  subst hP
  obtain ⟨na, nc, r, ss, sf, sn, s0, s2, c0, c2, rfl, hpre, hss, hsf, hsn, hput⟩ := hM.opnT ht hg
  refine Spec_openAt [r, blk b.thb 263 (c0 ++ [I t.st, I t.fn, .slice g.sa t.stack.length g.sc, .slice g.fa t.frames.length g.fc, .slice na t.opn.length nc] ++ c2), s0, ss, sf, sn, s2] (by first | exact P0 | exact P1 | exact P2 | exact P3 | exact P4 | exact P5 | exact P6 | exact P7 | exact P8 | exact P9 | exact P10 | exact P11 | exact P12 | exact P13 | exact P14 | exact P15 | exact P16 | exact P17 | exact P18 | exact P19 | exact P20 | exact P21 | exact P22 | exact P23) ?_
  simp only [List.cons_append, List.nil_append]
  refine Spec_enter Tryz.func142 rfl Tryz.ntmps142 rfl ?_
  show SP _ _ _ _ _ [(0, _), (1, _)] _
  refine SP_region ?_
  refine SPL_y (y_move rfl) rfl ?_
  refine SPL_y (y_move rfl) rfl ?_
  refine SPL_y (y_nil rfl) rfl ?_
  refine SPL_y (y_fa fld_263_2 rfl) rfl ?_
  refine SPL_y (y_load Tryz.isAgg90 rfl (by repeat (first | exact Cell.amid hpre rfl | exact Cell.head rfl | apply Cell.tail))) rfl ?_
  refine SPL_y (y_move rfl) rfl ?_
  refine SPL_one rfl (SP1_append el_90 (.inl Tryz.underlying90) rfl rfl hss (by first | exact P0 | exact P1 | exact P2 | exact P3 | exact P4 | exact P5 | exact P6 | exact P7 | exact P8 | exact P9 | exact P10 | exact P11 | exact P12 | exact P13 | exact P14 | exact P15 | exact P16 | exact P17 | exact P18 | exact P19 | exact P20 | exact P21 | exact P22 | exact P23) (Src.of (by repeat (first | exact Cells.all _ | exact Cells.amid hpre rfl (by decide) | exact Cells.head rfl | apply Cells.tail)) (flat_len valV_len _)) (valV_one _) (by omega) rfl ?_)
  intro sa1 sc1 ss1 hA1
  refine SPL_y (y_nil rfl) rfl ?_
  refine SPL_y (y_fa fld_263_2 rfl) rfl ?_
  refine SPL_one rfl (SP1_storeM (j := 2) Tryz.sizeOf90 rfl rfl rfl hpre (by first | exact U0 | exact U1 | exact U2 | exact U3 | exact U4 | exact U5 | exact U6 | exact U7 | exact U8 | exact U9 | exact U10 | exact U11 | exact U12 | exact U13 | exact U14 | exact U15 | exact U16 | exact U17 | exact U18 | exact U19 | exact U20 | exact U21 | exact U22 | exact U23) (by rfl) ?_)
  simp only [List.set_cons_zero, List.set_cons_succ, List.take_succ_cons, List.take_zero, List.drop_succ_cons, List.drop_zero, List.cons_append, List.nil_append]
  rw [show t.stack.length + l.length = (t.stack ++ l).length from List.length_append.symm, ← List.flatMap_append] at hA1
  rw [show t.stack.length + l.length = (t.stack ++ l).length from List.length_append.symm]
  refine SPL_nil ?_
  refine bodyP_end (H' := [List.flatten [r, blk b.thb 263 (c0 ++ [I t.st, I t.fn, .slice sa1 (t.stack ++ l).length sc1, .slice g.fa t.frames.length g.fc, .slice na t.opn.length nc] ++ c2), s0, ss1, sf, sn, s2]]) (Res0 rfl) (by repeat (first | exact Part.nil _ | (apply Part.cons; with_reducible (first | exact P0 | exact P1 | exact P2 | exact P3 | exact P4 | exact P5 | exact P6 | exact P7 | exact P8 | exact P9 | exact P10 | exact P11 | exact P12 | exact P13 | exact P14 | exact P15 | exact P16 | exact P17 | exact P18 | exact P19 | exact P20 | exact P21 | exact P22 | exact P23)) | (apply Part.flat; simp only [List.cons_append, List.nil_append]) | (apply Part.cons; (first | exact P0 | exact P1 | exact P2 | exact P3 | exact P4 | exact P5 | exact P6 | exact P7 | exact P8 | exact P9 | exact P10 | exact P11 | exact P12 | exact P13 | exact P14 | exact P15 | exact P16 | exact P17 | exact P18 | exact P19 | exact P20 | exact P21 | exact P22 | exact P23)) | (apply Part.nilc))) ?_
  exact ⟨rfl, hh.set th { g with sa := sa1, sc := sc1 }, _, KF.set hg rfl rfl, hput { t with stack := t.stack ++ l } { g with sa := sa1, sc := sc1 } na nc ss1 sf sn hA1 hsf hsn, rfl⟩

theorem vm_pop (b : VB) (ph : PH) (hh : List TH) {m m' : VM} {th : Nat} {x : V} (hP : popM th m = some (x, m')) (seg : Seg) (hM : isVM b ph hh m seg) : Spec Tryz.prog 264 [tp b th] [seg] (Ret (vOk b ph hh m' (.agg (valV x).toArray))) := by
  unfold popM getT at hP
  obtain ⟨t, ht, hP⟩ := bnd1 hP
  obtain ⟨g, hg⟩ : ∃ g, hh[th]? = some g := by obtain ⟨g, _, _, hg, _⟩ := hM.thr ht; exact ⟨g, hg⟩
  have hlen : t.stack.length ≤ 1000000 := Decidable.byContradiction fun q => by rw [if_neg q] at hP; cases hP
  rw [if_pos hlen] at hP
  obtain ⟨y, hy, hP⟩ := bnd1 hP
  injection hP with hP
  injection hP with h1 h2
  subst h1
  subst h2
  obtain ⟨na, nc, r, ss, sf, sn, s0, s2, c0, c2, rfl, hpre, hss, hsf, hsn, hput⟩ := hM.opnT ht hg
  refine Spec_openAt [r, blk b.thb 263 (c0 ++ [I t.st, I t.fn, .slice g.sa t.stack.length g.sc, .slice g.fa t.frames.length g.fc, .slice na t.opn.length nc] ++ c2), s0, ss, sf, sn, s2] (by first | exact P0 | exact P1 | exact P2 | exact P3 | exact P4 | exact P5 | exact P6 | exact P7 | exact P8 | exact P9 | exact P10 | exact P11 | exact P12 | exact P13 | exact P14 | exact P15 | exact P16 | exact P17 | exact P18 | exact P19 | exact P20 | exact P21 | exact P22 | exact P23) ?_
  simp only [List.cons_append, List.nil_append]
  obtain ⟨hn0, hsp⟩ := last_split hy
  obtain ⟨sq, ssp, hsa, hsc, hssp, rfl⟩ := hss.row hn0
  have hyi : t.stack.length - 1 < t.stack.length := by omega
  have hyv : t.stack[t.stack.length - 1] = y := (List.getElem?_eq_some_iff.1 hy).2
  have hA1 := hss.cut (j := t.stack.length - 1) (by omega)
  rw [flat_take valV_len (by omega)] at hA1
  generalize hL : t.stack.take (t.stack.length - 1) = L at hA1 ⊢
  have hl1 : t.stack.length - 1 = L.length := by rw [← hL]; simp
  have hl2 : ((t.stack.length : Int) - 1).toNat = L.length := by omega
  rw [hl1] at hA1
  rw [hsa]
  refine Spec_enter Tryz.func264 rfl Tryz.ntmps264 rfl ?_
  show SP _ _ _ _ _ [(0, _)] _
  refine SP_seq ?_
  refine SP_region ?_
  refine SPL_one rfl (SP1_alloc Tryz.zeroValue42 rfl rfl ?_)
  intro b2
  refine SPL_nil ?_
  refine thenP_n ?_
  refine SP_seq ?_
  refine SP_region ?_
  refine SPL_y (y_move rfl) rfl ?_
  refine SPL_y (y_nil rfl) rfl ?_
  refine SPL_y (y_fa fld_263_2 rfl) rfl ?_
  refine SPL_y (y_load Tryz.isAgg90 rfl (by repeat (first | exact Cell.amid hpre rfl | exact Cell.head rfl | apply Cell.tail))) rfl ?_
  refine SPL_y (y_len_l Tryz.underlying90 rfl) rfl ?_
  refine SPL_y (y_sub rfl rfl (by omega)) rfl ?_
  refine SPL_y (y_assign rfl) rfl ?_
  refine SPL_nil ?_
  refine thenP_n ?_
  refine SP_seq ?_
  refine SP_region ?_
  refine SPL_y (y_move rfl) rfl ?_
  refine SPL_y (y_nil rfl) rfl ?_
  refine SPL_y (y_fa fld_263_2 rfl) rfl ?_
  refine SPL_y (y_load Tryz.isAgg90 rfl (by repeat (first | exact Cell.amid hpre rfl | exact Cell.head rfl | apply Cell.tail))) rfl ?_
  refine SPL_y (y_move rfl) rfl ?_
  refine SPL_y (y_ia Tryz.underlying90 Tryz.sizeOf42 rfl rfl (by omega)) rfl ?_
  refine SPL_y (y_loads Tryz.isAgg42 Tryz.sizeOf42 rfl rfl (by repeat (first | exact flat_cellsE valV_len (by omega) hyi hyv | apply Cells.tail))) rfl ?_
  refine SPL_one rfl (SP1_alloc Tryz.zeroValue42 rfl rfl ?_)
  intro b4
  refine SPL_one rfl (SP1_storeAll Tryz.sizeOf42 rfl rfl rfl rfl rfl (by first | exact U0 | exact U1 | exact U2 | exact U3 | exact U4 | exact U5 | exact U6 | exact U7 | exact U8 | exact U9 | exact U10 | exact U11 | exact U12 | exact U13 | exact U14 | exact U15 | exact U16 | exact U17 | exact U18 | exact U19 | exact U20 | exact U21 | exact U22 | exact U23) (by rfl) ?_)
  refine SPL_nil ?_
  refine thenP_n ?_
  refine SP_seq ?_
  refine SP_region ?_
  refine SPL_y (y_move rfl) rfl ?_
  refine SPL_y (y_move rfl) rfl ?_
  refine SPL_y (y_nil rfl) rfl ?_
  refine SPL_y (y_fa fld_263_2 rfl) rfl ?_
  refine SPL_y (y_load Tryz.isAgg90 rfl (by repeat (first | exact Cell.amid hpre rfl | exact Cell.head rfl | apply Cell.tail))) rfl ?_
  refine SPL_y (y_move rfl) rfl ?_
  refine SPL_y (y_cut (hsa ▸ hss) Tryz.underlying90 Tryz.sizeOf42 rfl rfl (by have := hss.mle; omega)) rfl ?_
  refine SPL_y (y_nil rfl) rfl ?_
  refine SPL_y (y_fa fld_263_2 rfl) rfl ?_
  refine SPL_one rfl (SP1_storeM (j := 2) Tryz.sizeOf90 rfl rfl rfl hpre (by first | exact U0 | exact U1 | exact U2 | exact U3 | exact U4 | exact U5 | exact U6 | exact U7 | exact U8 | exact U9 | exact U10 | exact U11 | exact U12 | exact U13 | exact U14 | exact U15 | exact U16 | exact U17 | exact U18 | exact U19 | exact U20 | exact U21 | exact U22 | exact U23) (by rfl) ?_)
  simp only [List.set_cons_zero, List.set_cons_succ, List.take_succ_cons, List.take_zero, List.drop_succ_cons, List.drop_zero, List.cons_append, List.nil_append]
  rw [hl2]
  rw [← hsa]
  refine SPL_nil ?_
  refine thenP_n ?_
  refine SP_seq ?_
  refine SP_region ?_
  refine SPL_y (y_loads Tryz.isAgg42 Tryz.sizeOf42 rfl rfl (by repeat (first | exact Cells.all _ | exact Cells.amid hpre rfl (by decide) | exact Cells.head rfl | apply Cells.tail))) rfl ?_
  refine SPL_one rfl (SP1_storeAll Tryz.sizeOf42 rfl rfl rfl rfl rfl (by first | exact U0 | exact U1 | exact U2 | exact U3 | exact U4 | exact U5 | exact U6 | exact U7 | exact U8 | exact U9 | exact U10 | exact U11 | exact U12 | exact U13 | exact U14 | exact U15 | exact U16 | exact U17 | exact U18 | exact U19 | exact U20 | exact U21 | exact U22 | exact U23) (by rfl) ?_)
  refine SPL_nil ?_
  refine thenP_n ?_
  refine SP_ret ?_
  refine bodyP_ret (H' := [List.flatten [r, blk b.thb 263 (c0 ++ [I t.st, I t.fn, .slice g.sa L.length g.sc, .slice g.fa t.frames.length g.fc, .slice na t.opn.length nc] ++ c2), s0, (blk sq 42 (t.stack.flatMap valV ++ ssp)), sf, sn, s2]]) (ResC rfl rfl Tryz.isAgg42 Tryz.sizeOf42 rfl (by repeat (first | exact Cells.all _ | exact Cells.amid hpre rfl (by decide) | exact Cells.head rfl | apply Cells.tail))) (by repeat (first | exact Part.nil _ | (apply Part.cons; with_reducible (first | exact P0 | exact P1 | exact P2 | exact P3 | exact P4 | exact P5 | exact P6 | exact P7 | exact P8 | exact P9 | exact P10 | exact P11 | exact P12 | exact P13 | exact P14 | exact P15 | exact P16 | exact P17 | exact P18 | exact P19 | exact P20 | exact P21 | exact P22 | exact P23)) | (apply Part.flat; simp only [List.cons_append, List.nil_append]) | (apply Part.cons; (first | exact P0 | exact P1 | exact P2 | exact P3 | exact P4 | exact P5 | exact P6 | exact P7 | exact P8 | exact P9 | exact P10 | exact P11 | exact P12 | exact P13 | exact P14 | exact P15 | exact P16 | exact P17 | exact P18 | exact P19 | exact P20 | exact P21 | exact P22 | exact P23)) | (apply Part.nilc))) ?_
  refine ⟨rfl, _, ?_, rfl⟩
  have := hput { t with stack := L } g na nc _ sf sn hA1 hsf hsn
  rw [set_same hg] at this
  exact this

end Go.Sl
