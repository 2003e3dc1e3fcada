/- Walks: package comp, a function state (made by program out of short notes) -/
import Derived.Test.Qxb6500573aGreatDoorWComp
namespace Go.Sl
open Go Go.Wl Go.Proofs
set_option maxRecDepth 100000
set_option linter.unusedVariables false
set_option linter.unusedSimpArgs false
theorem cp_bind (x : CX) {k : Nat} {s s' : CS} {name : List UInt8} (hP : bindM k name s = some s') (seg : Seg) (hC : isC x s seg) : Spec Tryz.prog 197 [fp x.fb k, S name] [seg] (Ret (cOk x s')) := by
  unfold bindM at hP
  refine Spec_enter Tryz.func197 rfl Tryz.ntmps197 rfl ?_
  show SP _ _ _ _ _ [(0, _), (1, _)] _
  refine SP_seq ?_
  refine SP_region ?_
  refine SPL_y (y_move rfl) rfl ?_
  refine SPL_y (y_move rfl) rfl ?_
  obtain ⟨i0, s0, hq0, hP⟩ := bnd2 hP
  refine SPL_one rfl (SP1_call (cp_declare x hq0 _ hC) Tryz.call199 rfl rfl (by repeat (first | exact Part.nil _ | (apply Part.cons; with_reducible (first | exact P0 | exact P1 | exact P2 | exact P3 | exact P4 | exact P5 | exact P6 | exact P7 | exact P8 | exact P9 | exact P10 | exact P11 | exact P12 | exact P13 | exact P14 | exact P15 | exact P16 | exact P17 | exact P18 | exact P19 | exact P20 | exact P21 | exact P22 | exact P23)) | (apply Part.flat; simp only [List.cons_append, List.nil_append]) | (apply Part.cons; (first | exact P0 | exact P1 | exact P2 | exact P3 | exact P4 | exact P5 | exact P6 | exact P7 | exact P8 | exact P9 | exact P10 | exact P11 | exact P12 | exact P13 | exact P14 | exact P15 | exact P16 | exact P17 | exact P18 | exact P19 | exact P20 | exact P21 | exact P22 | exact P23)) | (apply Part.nilc))) ?_)
  rintro v post H' ⟨rfl, sg0, hC, rfl⟩ hH
  try simp only [List.cons_append, List.nil_append] at hH
  subst hH
  refine SPL_y (y_assign rfl) rfl ?_
  refine SPL_nil ?_
  refine thenP_n ?_
  refine SP_region ?_
  refine SPL_y (y_move rfl) rfl ?_
  refine SPL_y (y_move rfl) rfl ?_
  refine SPL_y (y_conv Tryz.underlying3 Tryz.underlying97 rfl rfl) rfl ?_
  refine SPL_y (y_build B99 rfl rfl (by simp only [fillL, List.foldl_cons, List.foldl_nil, List.set_cons_zero, List.set_cons_succ]; exact rfl)) rfl ?_
  refine SPL_one rfl (SP1_slice1 el_93 rfl rfl rfl rfl rfl ?_)
  intro b12
  refine SPL_one rfl (SP1_call (cp_emit x _ hP _ hC) Tryz.call73 rfl rfl (by repeat (first | exact Part.nil _ | (apply Part.cons; with_reducible (first | exact P0 | exact P1 | exact P2 | exact P3 | exact P4 | exact P5 | exact P6 | exact P7 | exact P8 | exact P9 | exact P10 | exact P11 | exact P12 | exact P13 | exact P14 | exact P15 | exact P16 | exact P17 | exact P18 | exact P19 | exact P20 | exact P21 | exact P22 | exact P23)) | (apply Part.flat; simp only [List.cons_append, List.nil_append]) | (apply Part.cons; (first | exact P0 | exact P1 | exact P2 | exact P3 | exact P4 | exact P5 | exact P6 | exact P7 | exact P8 | exact P9 | exact P10 | exact P11 | exact P12 | exact P13 | exact P14 | exact P15 | exact P16 | exact P17 | exact P18 | exact P19 | exact P20 | exact P21 | exact P22 | exact P23)) | (apply Part.nilc))) ?_)
  rintro v post H' ⟨rfl, sg9, hC, rfl⟩ hH
  try simp only [List.cons_append, List.nil_append] at hH
  subst hH
  refine SPL_nil ?_
  refine bodyP_end (H' := [sg9]) (Res0 rfl) (by repeat (first | exact Part.nil _ | (apply Part.cons; with_reducible (first | exact P0 | exact P1 | exact P2 | exact P3 | exact P4 | exact P5 | exact P6 | exact P7 | exact P8 | exact P9 | exact P10 | exact P11 | exact P12 | exact P13 | exact P14 | exact P15 | exact P16 | exact P17 | exact P18 | exact P19 | exact P20 | exact P21 | exact P22 | exact P23)) | (apply Part.flat; simp only [List.cons_append, List.nil_append]) | (apply Part.cons; (first | exact P0 | exact P1 | exact P2 | exact P3 | exact P4 | exact P5 | exact P6 | exact P7 | exact P8 | exact P9 | exact P10 | exact P11 | exact P12 | exact P13 | exact P14 | exact P15 | exact P16 | exact P17 | exact P18 | exact P19 | exact P20 | exact P21 | exact P22 | exact P23)) | (apply Part.nilc))) ?_
  exact ⟨rfl, _, hC, rfl⟩

theorem cp_leaveB (x : CX) {k : Nat} {s s' : CS} {base : Int} (hP : leaveM k base s = some s') (seg : Seg) (hC : isC x s seg) : SpecB Tryz.prog 128 [fp x.fb k, I base] [seg] (cOk x s') := by
  unfold leaveM at hP
  obtain ⟨f, hf, hP⟩ := bnd1 hP
  obtain ⟨la0, lc0, hlc⟩ := hC.locs hf
  refine Spec_enterB Tryz.func128 rfl Tryz.ntmps128 rfl ?_
  show SP _ _ _ _ _ [(0, _), (1, _)] _
  refine SP_seq ?_
  refine SP_region ?_
  refine SPL_y (y_move rfl) rfl ?_
  refine SPL_y (y_nil rfl) rfl ?_
  refine SPL_y (y_fa fld_96_3 rfl) rfl ?_
  refine SPL_y (y_load Tryz.isAgg88 rfl (by repeat (first | exact (hlc _) | apply Cell.tail))) rfl ?_
  refine SPL_y (y_len_l Tryz.underlying88 rfl) rfl ?_
  refine SPL_y (y_move rfl) rfl ?_
  refine SPL_ifn (y_gtr rfl rfl) rfl ?_ ?_
  · intro h0_6
    first | rw [if_neg h0_6] at hP | rw [if_pos (Decidable.not_not.1 h0_6)] at hP | skip
    refine SPL_nil ?_
    refine thenP_n ?_
    refine SP_cond_f rfl ?_
    refine SP_skip ?_
    refine bodyP_end (H' := [seg]) (Res0 rfl) (by repeat (first | exact Part.nil _ | (apply Part.cons; with_reducible (first | exact P0 | exact P1 | exact P2 | exact P3 | exact P4 | exact P5 | exact P6 | exact P7 | exact P8 | exact P9 | exact P10 | exact P11 | exact P12 | exact P13 | exact P14 | exact P15 | exact P16 | exact P17 | exact P18 | exact P19 | exact P20 | exact P21 | exact P22 | exact P23)) | (apply Part.flat; simp only [List.cons_append, List.nil_append]) | (apply Part.cons; (first | exact P0 | exact P1 | exact P2 | exact P3 | exact P4 | exact P5 | exact P6 | exact P7 | exact P8 | exact P9 | exact P10 | exact P11 | exact P12 | exact P13 | exact P14 | exact P15 | exact P16 | exact P17 | exact P18 | exact P19 | exact P20 | exact P21 | exact P22 | exact P23)) | (apply Part.nilc))) ?_
    injection hP with hP
    subst hP
    exact ⟨rfl, _, hC, rfl⟩
  intro h0_6
  first | rw [if_pos h0_6] at hP | rw [if_neg h0_6] at hP | skip
  refine SPL_nil ?_
  refine thenP_n ?_
  refine SP_cond_t rfl ?_
  refine SP_seq ?_
  refine SP_region ?_
  refine SPL_y (y_move rfl) rfl ?_
  refine SPL_y (y_move rfl) rfl ?_
  refine SPL_y (y_conv Tryz.underlying3 Tryz.underlying97 rfl rfl) rfl ?_
  refine SPL_y (y_build B99 rfl rfl (by simp only [fillL, List.foldl_cons, List.foldl_nil, List.set_cons_zero, List.set_cons_succ]; exact rfl)) rfl ?_
  refine SPL_one rfl (SP1_slice1 el_93 rfl rfl rfl rfl rfl ?_)
  intro b15
  obtain ⟨s1, hq1, hP⟩ := bnd1 hP
  refine SPL_one rfl (SP1_call (cp_emit x _ hq1 _ hC) Tryz.call73 rfl rfl (by repeat (first | exact Part.nil _ | (apply Part.cons; with_reducible (first | exact P0 | exact P1 | exact P2 | exact P3 | exact P4 | exact P5 | exact P6 | exact P7 | exact P8 | exact P9 | exact P10 | exact P11 | exact P12 | exact P13 | exact P14 | exact P15 | exact P16 | exact P17 | exact P18 | exact P19 | exact P20 | exact P21 | exact P22 | exact P23)) | (apply Part.flat; simp only [List.cons_append, List.nil_append]) | (apply Part.cons; (first | exact P0 | exact P1 | exact P2 | exact P3 | exact P4 | exact P5 | exact P6 | exact P7 | exact P8 | exact P9 | exact P10 | exact P11 | exact P12 | exact P13 | exact P14 | exact P15 | exact P16 | exact P17 | exact P18 | exact P19 | exact P20 | exact P21 | exact P22 | exact P23)) | (apply Part.nilc))) ?_)
  rintro v post H' ⟨rfl, sg1, hC, rfl⟩ hH
  try simp only [List.cons_append, List.nil_append] at hH
  subst hH
  refine SPL_nil ?_
  refine thenP_n ?_
  unfold cutM at hP
  obtain ⟨f, hf, hP⟩ := bnd1 hP
  obtain ⟨la, lc, ua, uc, ka, kc, oa, oc, qa, qc, bn, bs, ls, us, ks, sn, ss, os, qs, ql, c0, c2, lcs, s0, s2, rfl, hpre, hlo, hup, hco, hcd, hlp, hlr, hM1, hM2, hput⟩ := hC.opn hf
  refine SP_openAt [x.head s1.np, blk x.fb 96 (c0 ++ [pt x.cb, parV x.fb f.parent, I f.nparams, .slice la f.locals.length lc, I f.nslots, .slice ua f.ups.length uc, .slice ka f.consts.length kc, .map (some bn), .map (some bs), .slice oa f.code.length oc, .slice qa f.loops.length qc] ++ c2), s0, ls, us, ks, sn, ss, os, qs, ql, s2, x.nodes] (by first | exact P0 | exact P1 | exact P2 | exact P3 | exact P4 | exact P5 | exact P6 | exact P7 | exact P8 | exact P9 | exact P10 | exact P11 | exact P12 | exact P13 | exact P14 | exact P15 | exact P16 | exact P17 | exact P18 | exact P19 | exact P20 | exact P21 | exact P22 | exact P23) ?_
  simp only [List.cons_append, List.nil_append]
  have hb : 0 ≤ base ∧ base ≤ f.locals.length := Decidable.byContradiction fun q => by rw [if_neg q] at hP; cases hP
  rw [if_pos hb] at hP
  injection hP with hP
  subst hP
  have hlc2 := hlo.mle
  have hA1 := hlo.cut (j := base.toNat) (by omega)
  rw [show base.toNat * 1 = base.toNat from by omega, ← List.map_take] at hA1
  generalize hL : f.locals.take base.toNat = L at hA1 ⊢
  have hl1 : base.toNat = L.length := by rw [← hL]; simp; omega
  refine SP_region ?_
  refine SPL_y (y_move rfl) rfl ?_
  refine SPL_y (y_move rfl) rfl ?_
  refine SPL_y (y_nil rfl) rfl ?_
  refine SPL_y (y_fa fld_96_3 rfl) rfl ?_
  refine SPL_y (y_load Tryz.isAgg88 rfl (by repeat (first | exact Cell.amid hpre rfl | exact Cell.head rfl | apply Cell.tail))) rfl ?_
  refine SPL_y (y_move rfl) rfl ?_
  refine SPL_y (y_cut hlo Tryz.underlying88 Tryz.sizeOf9 rfl rfl (by omega)) rfl ?_
  refine SPL_y (y_nil rfl) rfl ?_
  refine SPL_y (y_fa fld_96_3 rfl) rfl ?_
  refine SPL_one rfl (SP1_storeM (j := 3) Tryz.sizeOf88 rfl rfl rfl hpre (by first | exact U0 | exact U1 | exact U2 | exact U3 | exact U4 | exact U5 | exact U6 | exact U7 | exact U8 | exact U9 | exact U10 | exact U11 | exact U12 | exact U13 | exact U14 | exact U15 | exact U16 | exact U17 | exact U18 | exact U19 | exact U20 | exact U21 | exact U22 | exact U23) (by rfl) ?_)
  simp only [List.set_cons_zero, List.set_cons_succ, List.take_succ_cons, List.take_zero, List.drop_succ_cons, List.drop_zero, List.cons_append, List.nil_append]
  rw [hl1] at hA1 ⊢
  refine SPL_nil ?_
  refine bodyP_end (H' := [List.flatten [x.head s1.np, blk x.fb 96 (c0 ++ [pt x.cb, parV x.fb f.parent, I f.nparams, .slice la L.length lc, I f.nslots, .slice ua f.ups.length uc, .slice ka f.consts.length kc, .map (some bn), .map (some bs), .slice oa f.code.length oc, .slice qa f.loops.length qc] ++ c2), s0, ls, us, ks, sn, ss, os, qs, ql, s2, x.nodes]]) (Res0 rfl) (by repeat (first | exact Part.nil _ | (apply Part.cons; with_reducible (first | exact P0 | exact P1 | exact P2 | exact P3 | exact P4 | exact P5 | exact P6 | exact P7 | exact P8 | exact P9 | exact P10 | exact P11 | exact P12 | exact P13 | exact P14 | exact P15 | exact P16 | exact P17 | exact P18 | exact P19 | exact P20 | exact P21 | exact P22 | exact P23)) | (apply Part.flat; simp only [List.cons_append, List.nil_append]) | (apply Part.cons; (first | exact P0 | exact P1 | exact P2 | exact P3 | exact P4 | exact P5 | exact P6 | exact P7 | exact P8 | exact P9 | exact P10 | exact P11 | exact P12 | exact P13 | exact P14 | exact P15 | exact P16 | exact P17 | exact P18 | exact P19 | exact P20 | exact P21 | exact P22 | exact P23)) | (apply Part.nilc))) ?_
  exact ⟨rfl, _, hput { f with locals := L } la lc ua uc ka kc oa oc qa qc bn bs ls us ks sn ss os qs ql lcs rfl hA1 hup hco hcd hlp hlr hM1 hM2, rfl⟩

theorem cp_leave (x : CX) {k : Nat} {s s' : CS} {base : Int} (hP : leaveM k base s = some s') (seg : Seg) (hC : isC x s seg) : Spec Tryz.prog 128 [fp x.fb k, I base] [seg] (Ret (cOk x s')) := (cp_leaveB x hP seg hC).spec
theorem map_cell {α : Type} {g : α → Value} {l : List α} {d : α} {sp : List Value} {b : Nat} {T : TypeId} {H : Hp} {j : Int} (h0 : 0 ≤ j) (hj : j < l.length) : Cell (blk b T (l.map g ++ sp) :: H) b (0 + j.toNat * 1) (g (l.getD j.toNat d)) := by
  refine Cell.head ?_
  have hl : j.toNat < l.length := by omega
  rw [show 0 + j.toNat * 1 = j.toNat by omega, List.getElem?_append_left (by simpa using hl), List.getElem?_map, List.getD_eq_getElem?_getD, List.getElem?_eq_getElem hl]
  rfl
theorem cp_slot (x : CX) {k : Nat} {s : CS} {name : List UInt8} {i : Int} (hP : slotM k name s = some i) (seg : Seg) (hC : isC x s seg) : Spec Tryz.prog 277 [fp x.fb k, S name] [seg] (Ret fun v H => v = I i ∧ H = [seg]) := by
  unfold slotM at hP
  obtain ⟨f, hf, hP⟩ := bnd1 hP
  have hlen : f.locals.length < 1000000 := Decidable.byContradiction fun q => by rw [if_neg q] at hP; cases hP
  rw [if_pos hlen] at hP
  injection hP with hP
  obtain ⟨la, lc, ua, uc, ka, kc, oa, oc, qa, qc, bn, bs, ls, us, ks, sn, ss, os, qs, ql, c0, c2, lcs, s0, s2, rfl, hpre, hlo, hup, hco, hcd, hlp, hlr, hM1, hM2, hput⟩ := hC.opn hf
  refine Spec_openAt [x.head s.np, blk x.fb 96 (c0 ++ [pt x.cb, parV x.fb f.parent, I f.nparams, .slice la f.locals.length lc, I f.nslots, .slice ua f.ups.length uc, .slice ka f.consts.length kc, .map (some bn), .map (some bs), .slice oa f.code.length oc, .slice qa f.loops.length qc] ++ c2), s0, ls, us, ks, sn, ss, os, qs, ql, s2, x.nodes] (by first | exact P0 | exact P1 | exact P2 | exact P3 | exact P4 | exact P5 | exact P6 | exact P7 | exact P8 | exact P9 | exact P10 | exact P11 | exact P12 | exact P13 | exact P14 | exact P15 | exact P16 | exact P17 | exact P18 | exact P19 | exact P20 | exact P21 | exact P22 | exact P23) ?_
  simp only [List.cons_append, List.nil_append]
  refine Spec_enter Tryz.func277 rfl Tryz.ntmps277 rfl ?_
  show SP _ _ _ _ _ [(0, _), (1, _)] _
  refine SP_seq ?_
  refine SP_region ?_
  refine SPL_y (y_assign rfl) rfl ?_
  refine SPL_nil ?_
  refine thenP_n ?_
  refine SP_seq ?_
  refine SP_seq ?_
  refine SP_region ?_
  refine SPL_y (y_move rfl) rfl ?_
  refine SPL_y (y_nil rfl) rfl ?_
  refine SPL_y (y_fa fld_96_3 rfl) rfl ?_
  refine SPL_y (y_load Tryz.isAgg88 rfl (by repeat (first | exact Cell.amid hpre rfl | exact Cell.head rfl | apply Cell.tail))) rfl ?_
  refine SPL_y (y_len_l Tryz.underlying88 rfl) rfl ?_
  refine SPL_y (y_sub rfl rfl (by omega)) rfl ?_
  refine SPL_y (y_assign rfl) rfl ?_
  refine SPL_nil ?_
  refine thenP_n ?_
  refine SP_block ?_
  refine SP_loop (G := Nat) (fun g => g) (fun g => [(0, fp x.fb k), (1, S name), (5, I ((g : Int) - 1))]) (fun g => [x.head s.np, blk x.fb 96 (c0 ++ [pt x.cb, parV x.fb f.parent, I f.nparams, .slice la f.locals.length lc, I f.nslots, .slice ua f.ups.length uc, .slice ka f.consts.length kc, .map (some bn), .map (some bs), .slice oa f.code.length oc, .slice qa f.loops.length qc] ++ c2), s0, ls, us, ks, sn, ss, os, qs, ql, s2, x.nodes]) (fun g => g ≤ f.locals.length ∧ slotAt f.locals name g = i) (f.locals.length) (⟨Nat.le_refl _, hP⟩) (by repeat (first | exact Sub.nil _ | refine Sub.cons rfl ?_)) (by repeat (first | exact Part.nil _ | (apply Part.cons; with_reducible (first | exact P0 | exact P1 | exact P2 | exact P3 | exact P4 | exact P5 | exact P6 | exact P7 | exact P8 | exact P9 | exact P10 | exact P11 | exact P12 | exact P13 | exact P14 | exact P15 | exact P16 | exact P17 | exact P18 | exact P19 | exact P20 | exact P21 | exact P22 | exact P23)) | (apply Part.flat; simp only [List.cons_append, List.nil_append]) | (apply Part.cons; (first | exact P0 | exact P1 | exact P2 | exact P3 | exact P4 | exact P5 | exact P6 | exact P7 | exact P8 | exact P9 | exact P10 | exact P11 | exact P12 | exact P13 | exact P14 | exact P15 | exact P16 | exact P17 | exact P18 | exact P19 | exact P20 | exact P21 | exact P22 | exact P23)) | (apply Part.nilc))) ?_
  rintro n ⟨hn, hs⟩
  refine SP_seq ?_
  refine SP_seq ?_
  refine SP_region ?_
  refine SPL_y (y_move rfl) rfl ?_
  refine SPL_ifn (y_geq rfl rfl) rfl ?_ ?_
  · intro h2_1
    refine SPL_nil ?_
    refine thenP_n ?_
    refine SP_cond_f rfl ?_
    refine SP_exit ?_
    refine thenP_exit ?_
    refine thenP_exit ?_
    refine inBlockP_hit ?_
    refine thenP_n ?_
    refine SP_seq ?_
    refine SP_region ?_
    refine SPL_y (y_assign rfl) rfl ?_
    refine SPL_nil ?_
    refine thenP_n ?_
    refine SP_ret ?_
    refine bodyP_ret (H' := [List.flatten [x.head s.np, blk x.fb 96 (c0 ++ [pt x.cb, parV x.fb f.parent, I f.nparams, .slice la f.locals.length lc, I f.nslots, .slice ua f.ups.length uc, .slice ka f.consts.length kc, .map (some bn), .map (some bs), .slice oa f.code.length oc, .slice qa f.loops.length qc] ++ c2), s0, ls, us, ks, sn, ss, os, qs, ql, s2, x.nodes]]) (Res1 rfl rfl) (by repeat (first | exact Part.nil _ | (apply Part.cons; with_reducible (first | exact P0 | exact P1 | exact P2 | exact P3 | exact P4 | exact P5 | exact P6 | exact P7 | exact P8 | exact P9 | exact P10 | exact P11 | exact P12 | exact P13 | exact P14 | exact P15 | exact P16 | exact P17 | exact P18 | exact P19 | exact P20 | exact P21 | exact P22 | exact P23)) | (apply Part.flat; simp only [List.cons_append, List.nil_append]) | (apply Part.cons; (first | exact P0 | exact P1 | exact P2 | exact P3 | exact P4 | exact P5 | exact P6 | exact P7 | exact P8 | exact P9 | exact P10 | exact P11 | exact P12 | exact P13 | exact P14 | exact P15 | exact P16 | exact P17 | exact P18 | exact P19 | exact P20 | exact P21 | exact P22 | exact P23)) | (apply Part.nilc))) ?_
    obtain rfl : n = 0 := by omega
    exact ⟨by rw [slotAt] at hs; rw [hs], rfl⟩
  intro h2_1
  refine SPL_nil ?_
  refine thenP_n ?_
  refine SP_cond_t rfl ?_
  refine SP_skip ?_
  refine thenP_n ?_
  refine SP_seq ?_
  refine SP_block ?_
  refine SP_seq ?_
  obtain ⟨lb, lsp, rfl, hlc2, hlsp, rfl⟩ := hlo.row (by omega)
  refine SP_region ?_
  refine SPL_y (y_move rfl) rfl ?_
  refine SPL_y (y_nil rfl) rfl ?_
  refine SPL_y (y_fa fld_96_3 rfl) rfl ?_
  refine SPL_y (y_load Tryz.isAgg88 rfl (by repeat (first | exact Cell.amid hpre rfl | exact Cell.head rfl | apply Cell.tail))) rfl ?_
  refine SPL_y (y_move rfl) rfl ?_
  refine SPL_y (y_ia Tryz.underlying88 Tryz.sizeOf9 rfl rfl (by omega)) rfl ?_
  refine SPL_y (y_load Tryz.isAgg9 rfl (by repeat (first | exact map_cell (d := []) (by omega) (by omega) | apply Cell.tail))) rfl ?_
  refine SPL_y (y_move rfl) rfl ?_
  refine SPL_ifn (y_seq rfl rfl) rfl ?_ ?_
  · intro h4_8
    refine SPL_nil ?_
    refine thenP_n ?_
    refine SP_cond_f rfl ?_
    refine SP_skip ?_
    refine inBlockP_n ?_
    refine thenP_n ?_
    refine SP_region ?_
    refine SPL_y (y_move rfl) rfl ?_
    refine SPL_y (y_subE rfl rfl (c := ((n - 1 : Nat) : Int) - 1) (by omega) (by omega)) rfl ?_
    refine SPL_y (y_assign rfl) rfl ?_
    refine SPL_nil ?_
    refine thenP_n ?_
    exact Again.intro (n - 1) (⟨by omega, by rw [show n = (n - 1) + 1 from by omega, slotAt, if_neg (by rw [show ((n : Nat) : Int) - 1 = ((n - 1 : Nat) : Int) from by omega] at h4_8; simpa using h4_8)] at hs; exact hs⟩) (by omega) (by repeat (first | exact Sub.nil _ | refine Sub.cons rfl ?_)) (by repeat (first | exact Part.nil _ | (apply Part.cons; with_reducible (first | exact P0 | exact P1 | exact P2 | exact P3 | exact P4 | exact P5 | exact P6 | exact P7 | exact P8 | exact P9 | exact P10 | exact P11 | exact P12 | exact P13 | exact P14 | exact P15 | exact P16 | exact P17 | exact P18 | exact P19 | exact P20 | exact P21 | exact P22 | exact P23)) | (apply Part.flat; simp only [List.cons_append, List.nil_append]) | (apply Part.cons; (first | exact P0 | exact P1 | exact P2 | exact P3 | exact P4 | exact P5 | exact P6 | exact P7 | exact P8 | exact P9 | exact P10 | exact P11 | exact P12 | exact P13 | exact P14 | exact P15 | exact P16 | exact P17 | exact P18 | exact P19 | exact P20 | exact P21 | exact P22 | exact P23)) | (apply Part.nilc)))
  intro h4_8
  refine SPL_nil ?_
  refine thenP_n ?_
  refine SP_cond_t rfl ?_
  refine SP_seq ?_
  refine SP_region ?_
  refine SPL_y (y_move rfl) rfl ?_
  refine SPL_y (y_assign rfl) rfl ?_
  refine SPL_nil ?_
  refine thenP_n ?_
  refine SP_ret ?_
  refine inBlockP_ret (thenP_ret (thenP_ret (inBlockP_ret (thenP_ret (bodyP_ret (H' := [List.flatten [x.head s.np, blk x.fb 96 (c0 ++ [pt x.cb, parV x.fb f.parent, I f.nparams, .slice (some ⟨lb, 0, none⟩) f.locals.length lc, I f.nslots, .slice ua f.ups.length uc, .slice ka f.consts.length kc, .map (some bn), .map (some bs), .slice oa f.code.length oc, .slice qa f.loops.length qc] ++ c2), s0, (blk lb 9 (f.locals.map S ++ lsp)), us, ks, sn, ss, os, qs, ql, s2, x.nodes]]) (Res1 rfl rfl) (by repeat (first | exact Part.nil _ | (apply Part.cons; with_reducible (first | exact P0 | exact P1 | exact P2 | exact P3 | exact P4 | exact P5 | exact P6 | exact P7 | exact P8 | exact P9 | exact P10 | exact P11 | exact P12 | exact P13 | exact P14 | exact P15 | exact P16 | exact P17 | exact P18 | exact P19 | exact P20 | exact P21 | exact P22 | exact P23)) | (apply Part.flat; simp only [List.cons_append, List.nil_append]) | (apply Part.cons; (first | exact P0 | exact P1 | exact P2 | exact P3 | exact P4 | exact P5 | exact P6 | exact P7 | exact P8 | exact P9 | exact P10 | exact P11 | exact P12 | exact P13 | exact P14 | exact P15 | exact P16 | exact P17 | exact P18 | exact P19 | exact P20 | exact P21 | exact P22 | exact P23)) | (apply Part.nilc))) ?_)))))
  obtain ⟨m, rfl⟩ : ∃ m, n = m + 1 := ⟨n - 1, by omega⟩
  rw [show ((m + 1 : Nat) : Int) - 1 = (m : Int) from by omega] at h4_8 ⊢
  rw [slotAt, if_pos (by simpa using h4_8)] at hs
  exact ⟨by rw [hs], rfl⟩

end Go.Sl
