/- Walks: package comp, constants, jumps, loops (made by program out of short notes) -/
import Derived.Test.Qxb6500573aGreatDoorWCompB
namespace Go.Sl
open Go Go.Wl Go.Proofs
set_option maxRecDepth 100000
set_option linter.unusedVariables false
set_option linter.unusedSimpArgs false
theorem cp_number (x : CX) {k : Nat} {s s' : CS} {bits : Int} {i : Int} (hP : cnumM k bits s = some (i, s')) (seg : Seg) (hC : isC x s seg) : Spec Tryz.prog 248 [fp x.fb k, .int .u64 bits] [seg] (Ret (cOkW x i s')) := by
  unfold cnumM at hP
  obtain ⟨f, hf, hP⟩ := bnd1 hP
  have hC0 := hC
  obtain ⟨la, lc, ua, uc, ka, kc, oa, oc, qa, qc, bn, bs, ls, us, ks, sn, ss, os, qs, ql, c0, c2, lcs, s0, s2, rfl, hpre, hlo, hup, hco, hcd, hlp, hlr, hM1, hM2, hput⟩ := hC.opn hf
  refine Spec_openAt [x.head s.np, blk x.fb 96 (c0 ++ [pt x.cb, parV x.fb f.parent, I f.nparams, .slice la f.locals.length lc, I f.nslots, .slice ua f.ups.length uc, .slice ka f.consts.length kc, .map (some bn), .map (some bs), .slice oa f.code.length oc, .slice qa f.loops.length qc] ++ c2), s0, ls, us, ks, sn, ss, os, qs, ql, s2, x.nodes] (by first | exact P0 | exact P1 | exact P2 | exact P3 | exact P4 | exact P5 | exact P6 | exact P7 | exact P8 | exact P9 | exact P10 | exact P11 | exact P12 | exact P13 | exact P14 | exact P15 | exact P16 | exact P17 | exact P18 | exact P19 | exact P20 | exact P21 | exact P22 | exact P23) ?_
  simp only [List.cons_append, List.nil_append]
  refine Spec_enter Tryz.func248 rfl Tryz.ntmps248 rfl ?_
  show SP _ _ _ _ _ [(0, _), (1, _)] _
  refine SP_seq ?_
  refine SP_region ?_
  refine SPL_y (y_assign rfl) rfl ?_
  refine SPL_nil ?_
  refine thenP_n ?_
  refine SP_seq ?_
  refine SP_region ?_
  refine SPL_y (y_move rfl) rfl ?_
  refine SPL_y (y_nil rfl) rfl ?_
  refine SPL_y (y_fa fld_96_7 rfl) rfl ?_
  refine SPL_y (y_load Tryz.isAgg91 rfl (by repeat (first | exact Cell.amid hpre rfl | exact Cell.head rfl | apply Cell.tail))) rfl ?_
  refine SPL_y (y_move rfl) rfl ?_
  refine SPL_y (y_lookupG hM1 Tryz.underlying91 kU Tryz.zeroValue97 rfl rfl (fun p hp => by simp only [List.flatten_cons, List.mem_append]; simp [hp])) rfl ?_
  generalize hq : mfind f.nums bits = q at hP ⊢
  obtain ⟨ok, hok⟩ : ∃ ok, q.isSome = ok := ⟨_, rfl⟩
  rw [hok]
  refine SPL_y (y_move rfl) rfl ?_
  refine SPL_y (y_ext rfl rfl) rfl ?_
  refine SPL_y (y_ext rfl rfl) rfl ?_
  rcases ok with _ | _
  · refine SPL_y (y_assign rfl) rfl ?_
    refine SPL_y (y_assign rfl) rfl ?_
    refine SPL_nil ?_
    refine thenP_n ?_
    refine SP_seq ?_
    refine SP_seq ?_
    refine SP_region ?_
    refine SPL_y (y_move rfl) rfl ?_
    refine SPL_y (y_not_f rfl) rfl ?_
    refine SPL_nil ?_
    refine thenP_n ?_
    refine SP_cond_t rfl ?_
    refine SP_seq ?_
    have hq0 : q = none := by cases q with | none => rfl | some _ => cases hok
    subst hq0
    dsimp only at hP
    have hlen : f.consts.length < 1000000 := Decidable.byContradiction fun q => by rw [if_neg q] at hP; cases hP
    rw [if_pos hlen] at hP
    injection hP with hP
    injection hP with h1 h2
    subst h1
    subst h2
    refine SP_region ?_
    refine SPL_y (y_move rfl) rfl ?_
    refine SPL_y (y_nil rfl) rfl ?_
    refine SPL_y (y_fa fld_96_6 rfl) rfl ?_
    refine SPL_y (y_load Tryz.isAgg90 rfl (by repeat (first | exact Cell.amid hpre rfl | exact Cell.head rfl | apply Cell.tail))) rfl ?_
    refine SPL_y (y_len_l Tryz.underlying90 rfl) rfl ?_
    refine SPL_y (y_conv Tryz.underlying3 Tryz.underlying97 rfl rfl) rfl ?_
    refine SPL_y (y_assign rfl) rfl ?_
    refine SPL_nil ?_
    refine thenP_n ?_
    refine SP_seq ?_
    refine SP_region ?_
    refine SPL_y (y_move rfl) rfl ?_
    refine SPL_y (y_nil rfl) rfl ?_
    refine SPL_y (y_fa fld_96_7 rfl) rfl ?_
    refine SPL_y (y_load Tryz.isAgg91 rfl (by repeat (first | exact Cell.amid hpre rfl | exact Cell.head rfl | apply Cell.tail))) rfl ?_
    refine SPL_y (y_move rfl) rfl ?_
    refine SPL_y (y_move rfl) rfl ?_
    refine SPL_one rfl (SP1_putG Tryz.underlying91 kU hM1 rfl rfl rfl (by first | exact P0 | exact P1 | exact P2 | exact P3 | exact P4 | exact P5 | exact P6 | exact P7 | exact P8 | exact P9 | exact P10 | exact P11 | exact P12 | exact P13 | exact P14 | exact P15 | exact P16 | exact P17 | exact P18 | exact P19 | exact P20 | exact P21 | exact P22 | exact P23) hq ?_)
    intro s9 h9
    refine SPL_nil ?_
    refine thenP_n ?_
    refine SP_region ?_
    refine SPL_y (y_move rfl) rfl ?_
    refine SPL_y (y_move rfl) rfl ?_
    refine SPL_y (y_nil rfl) rfl ?_
    refine SPL_y (y_fa fld_96_6 rfl) rfl ?_
    refine SPL_y (y_load Tryz.isAgg90 rfl (by repeat (first | exact Cell.amid hpre rfl | exact Cell.head rfl | apply Cell.tail))) rfl ?_
    refine SPL_y (y_move rfl) rfl ?_
    refine SPL_y (y_build B42 rfl rfl (by simp only [fillL, List.foldl_cons, List.foldl_nil, List.set_cons_zero, List.set_cons_succ]; exact rfl)) rfl ?_
    refine SPL_one rfl (SP1_slice1 el_90 rfl rfl rfl rfl rfl ?_)
    intro b37
    refine SPL_one rfl (SP1_append el_90 (.inl Tryz.underlying90) rfl rfl hco (by first | exact P0 | exact P1 | exact P2 | exact P3 | exact P4 | exact P5 | exact P6 | exact P7 | exact P8 | exact P9 | exact P10 | exact P11 | exact P12 | exact P13 | exact P14 | exact P15 | exact P16 | exact P17 | exact P18 | exact P19 | exact P20 | exact P21 | exact P22 | exact P23) (Src.of (by repeat (first | exact Cells.all _ | exact Cells.amid hpre rfl (by decide) | exact Cells.head rfl | apply Cells.tail)) (by rfl)) (by rfl) (by omega) rfl ?_)
    intro ka1 kc1 ks1 hA1
    refine SPL_y (y_nil rfl) rfl ?_
    refine SPL_y (y_fa fld_96_6 rfl) rfl ?_
    refine SPL_one rfl (SP1_storeM (j := 6) Tryz.sizeOf90 rfl rfl rfl hpre (by first | exact U0 | exact U1 | exact U2 | exact U3 | exact U4 | exact U5 | exact U6 | exact U7 | exact U8 | exact U9 | exact U10 | exact U11 | exact U12 | exact U13 | exact U14 | exact U15 | exact U16 | exact U17 | exact U18 | exact U19 | exact U20 | exact U21 | exact U22 | exact U23) (by rfl) ?_)
    simp only [List.set_cons_zero, List.set_cons_succ, List.take_succ_cons, List.take_zero, List.drop_succ_cons, List.drop_zero, List.cons_append, List.nil_append]
    rw [show f.consts.length + 1 = (f.consts ++ [(⟨2, bits, []⟩ : V)]).length from by simp] at hA1 ⊢
    rw [show f.consts.flatMap valV ++ _ = (f.consts ++ [(⟨2, bits, []⟩ : V)]).flatMap valV from by rw [List.flatMap_append]; rfl] at hA1
    refine SPL_nil ?_
    refine thenP_n ?_
    refine SP_seq ?_
    refine SP_region ?_
    refine SPL_y (y_move rfl) rfl ?_
    refine SPL_y (y_assign rfl) rfl ?_
    refine SPL_nil ?_
    refine thenP_n ?_
    refine SP_ret ?_
    refine bodyP_ret (H' := [List.flatten [x.head s.np, blk x.fb 96 (c0 ++ [pt x.cb, parV x.fb f.parent, I f.nparams, .slice la f.locals.length lc, I f.nslots, .slice ua f.ups.length uc, .slice ka1 (f.consts ++ [(⟨2, bits, []⟩ : V)]).length kc1, .map (some bn), .map (some bs), .slice oa f.code.length oc, .slice qa f.loops.length qc] ++ c2), s0, ls, us, ks1, s9, ss, os, qs, ql, s2, x.nodes]]) (Res1 rfl rfl) (by repeat (first | exact Part.nil _ | (apply Part.cons; with_reducible (first | exact P0 | exact P1 | exact P2 | exact P3 | exact P4 | exact P5 | exact P6 | exact P7 | exact P8 | exact P9 | exact P10 | exact P11 | exact P12 | exact P13 | exact P14 | exact P15 | exact P16 | exact P17 | exact P18 | exact P19 | exact P20 | exact P21 | exact P22 | exact P23)) | (apply Part.flat; simp only [List.cons_append, List.nil_append]) | (apply Part.cons; (first | exact P0 | exact P1 | exact P2 | exact P3 | exact P4 | exact P5 | exact P6 | exact P7 | exact P8 | exact P9 | exact P10 | exact P11 | exact P12 | exact P13 | exact P14 | exact P15 | exact P16 | exact P17 | exact P18 | exact P19 | exact P20 | exact P21 | exact P22 | exact P23)) | (apply Part.nilc))) ?_
    exact ⟨rfl, _, hput { f with nums := f.nums ++ [(bits, u16 f.consts.length)], consts := f.consts ++ [(⟨2, bits, []⟩ : V)] } la lc ua uc ka1 kc1 oa oc qa qc bn bs ls us ks1 s9 ss os qs ql lcs rfl hlo hup hA1 hcd hlp hlr h9 hM2, rfl⟩
  · refine SPL_y (y_assign rfl) rfl ?_
    refine SPL_y (y_assign rfl) rfl ?_
    refine SPL_nil ?_
    refine thenP_n ?_
    refine SP_seq ?_
    refine SP_seq ?_
    refine SP_region ?_
    refine SPL_y (y_move rfl) rfl ?_
    refine SPL_y (y_not_t rfl) rfl ?_
    refine SPL_nil ?_
    refine thenP_n ?_
    refine SP_cond_f rfl ?_
    refine SP_skip ?_
    refine thenP_n ?_
    refine SP_seq ?_
    obtain ⟨p, rfl⟩ := Option.isSome_iff_exists.1 hok
    dsimp only at hP
    injection hP with hP
    injection hP with h1 h2
    subst h1
    subst h2
    refine SP_region ?_
    refine SPL_y (y_move rfl) rfl ?_
    refine SPL_y (y_assign rfl) rfl ?_
    refine SPL_nil ?_
    refine thenP_n ?_
    refine SP_ret ?_
    refine bodyP_ret (H' := [List.flatten [x.head s.np, blk x.fb 96 (c0 ++ [pt x.cb, parV x.fb f.parent, I f.nparams, .slice la f.locals.length lc, I f.nslots, .slice ua f.ups.length uc, .slice ka f.consts.length kc, .map (some bn), .map (some bs), .slice oa f.code.length oc, .slice qa f.loops.length qc] ++ c2), s0, ls, us, ks, sn, ss, os, qs, ql, s2, x.nodes]]) (Res1 rfl rfl) (by repeat (first | exact Part.nil _ | (apply Part.cons; with_reducible (first | exact P0 | exact P1 | exact P2 | exact P3 | exact P4 | exact P5 | exact P6 | exact P7 | exact P8 | exact P9 | exact P10 | exact P11 | exact P12 | exact P13 | exact P14 | exact P15 | exact P16 | exact P17 | exact P18 | exact P19 | exact P20 | exact P21 | exact P22 | exact P23)) | (apply Part.flat; simp only [List.cons_append, List.nil_append]) | (apply Part.cons; (first | exact P0 | exact P1 | exact P2 | exact P3 | exact P4 | exact P5 | exact P6 | exact P7 | exact P8 | exact P9 | exact P10 | exact P11 | exact P12 | exact P13 | exact P14 | exact P15 | exact P16 | exact P17 | exact P18 | exact P19 | exact P20 | exact P21 | exact P22 | exact P23)) | (apply Part.nilc))) ?_
    exact ⟨rfl, _, hC0, rfl⟩

theorem cp_text (x : CX) {k : Nat} {s s' : CS} {t : List UInt8} {i : Int} (hP : ctextM k t s = some (i, s')) (seg : Seg) (hC : isC x s seg) : Spec Tryz.prog 249 [fp x.fb k, S t] [seg] (Ret (cOkW x i s')) := by
  unfold ctextM at hP
  obtain ⟨f, hf, hP⟩ := bnd1 hP
  have hC0 := hC
  obtain ⟨la, lc, ua, uc, ka, kc, oa, oc, qa, qc, bn, bs, ls, us, ks, sn, ss, os, qs, ql, c0, c2, lcs, s0, s2, rfl, hpre, hlo, hup, hco, hcd, hlp, hlr, hM1, hM2, hput⟩ := hC.opn hf
  refine Spec_openAt [x.head s.np, blk x.fb 96 (c0 ++ [pt x.cb, parV x.fb f.parent, I f.nparams, .slice la f.locals.length lc, I f.nslots, .slice ua f.ups.length uc, .slice ka f.consts.length kc, .map (some bn), .map (some bs), .slice oa f.code.length oc, .slice qa f.loops.length qc] ++ c2), s0, ls, us, ks, sn, ss, os, qs, ql, s2, x.nodes] (by first | exact P0 | exact P1 | exact P2 | exact P3 | exact P4 | exact P5 | exact P6 | exact P7 | exact P8 | exact P9 | exact P10 | exact P11 | exact P12 | exact P13 | exact P14 | exact P15 | exact P16 | exact P17 | exact P18 | exact P19 | exact P20 | exact P21 | exact P22 | exact P23) ?_
  simp only [List.cons_append, List.nil_append]
  refine Spec_enter Tryz.func249 rfl Tryz.ntmps249 rfl ?_
  show SP _ _ _ _ _ [(0, _), (1, _)] _
  refine SP_seq ?_
  refine SP_region ?_
  refine SPL_y (y_assign rfl) rfl ?_
  refine SPL_nil ?_
  refine thenP_n ?_
  refine SP_seq ?_
  refine SP_region ?_
  refine SPL_y (y_move rfl) rfl ?_
  refine SPL_y (y_nil rfl) rfl ?_
  refine SPL_y (y_fa fld_96_8 rfl) rfl ?_
  refine SPL_y (y_load Tryz.isAgg92 rfl (by repeat (first | exact Cell.amid hpre rfl | exact Cell.head rfl | apply Cell.tail))) rfl ?_
  refine SPL_y (y_move rfl) rfl ?_
  refine SPL_y (y_lookupG hM2 Tryz.underlying92 kS Tryz.zeroValue97 rfl rfl (fun p hp => by simp only [List.flatten_cons, List.mem_append]; simp [hp])) rfl ?_
  generalize hq : mfind f.strs t = q at hP ⊢
  obtain ⟨ok, hok⟩ : ∃ ok, q.isSome = ok := ⟨_, rfl⟩
  rw [hok]
  refine SPL_y (y_move rfl) rfl ?_
  refine SPL_y (y_ext rfl rfl) rfl ?_
  refine SPL_y (y_ext rfl rfl) rfl ?_
  rcases ok with _ | _
  · refine SPL_y (y_assign rfl) rfl ?_
    refine SPL_y (y_assign rfl) rfl ?_
    refine SPL_nil ?_
    refine thenP_n ?_
    refine SP_seq ?_
    refine SP_seq ?_
    refine SP_region ?_
    refine SPL_y (y_move rfl) rfl ?_
    refine SPL_y (y_not_f rfl) rfl ?_
    refine SPL_nil ?_
    refine thenP_n ?_
    refine SP_cond_t rfl ?_
    refine SP_seq ?_
    have hq0 : q = none := by cases q with | none => rfl | some _ => cases hok
    subst hq0
    dsimp only at hP
    have hlen : f.consts.length < 1000000 := Decidable.byContradiction fun q => by rw [if_neg q] at hP; cases hP
    rw [if_pos hlen] at hP
    injection hP with hP
    injection hP with h1 h2
    subst h1
    subst h2
    refine SP_region ?_
    refine SPL_y (y_move rfl) rfl ?_
    refine SPL_y (y_nil rfl) rfl ?_
    refine SPL_y (y_fa fld_96_6 rfl) rfl ?_
    refine SPL_y (y_load Tryz.isAgg90 rfl (by repeat (first | exact Cell.amid hpre rfl | exact Cell.head rfl | apply Cell.tail))) rfl ?_
    refine SPL_y (y_len_l Tryz.underlying90 rfl) rfl ?_
    refine SPL_y (y_conv Tryz.underlying3 Tryz.underlying97 rfl rfl) rfl ?_
    refine SPL_y (y_assign rfl) rfl ?_
    refine SPL_nil ?_
    refine thenP_n ?_
    refine SP_seq ?_
    refine SP_region ?_
    refine SPL_y (y_move rfl) rfl ?_
    refine SPL_y (y_nil rfl) rfl ?_
    refine SPL_y (y_fa fld_96_8 rfl) rfl ?_
    refine SPL_y (y_load Tryz.isAgg92 rfl (by repeat (first | exact Cell.amid hpre rfl | exact Cell.head rfl | apply Cell.tail))) rfl ?_
    refine SPL_y (y_move rfl) rfl ?_
    refine SPL_y (y_move rfl) rfl ?_
    refine SPL_one rfl (SP1_putG Tryz.underlying92 kS hM2 rfl rfl rfl (by first | exact P0 | exact P1 | exact P2 | exact P3 | exact P4 | exact P5 | exact P6 | exact P7 | exact P8 | exact P9 | exact P10 | exact P11 | exact P12 | exact P13 | exact P14 | exact P15 | exact P16 | exact P17 | exact P18 | exact P19 | exact P20 | exact P21 | exact P22 | exact P23) hq ?_)
    intro s9 h9
    refine SPL_nil ?_
    refine thenP_n ?_
    refine SP_region ?_
    refine SPL_y (y_move rfl) rfl ?_
    refine SPL_y (y_move rfl) rfl ?_
    refine SPL_y (y_nil rfl) rfl ?_
    refine SPL_y (y_fa fld_96_6 rfl) rfl ?_
    refine SPL_y (y_load Tryz.isAgg90 rfl (by repeat (first | exact Cell.amid hpre rfl | exact Cell.head rfl | apply Cell.tail))) rfl ?_
    refine SPL_y (y_move rfl) rfl ?_
    refine SPL_y (y_build B42 rfl rfl (by simp only [fillL, List.foldl_cons, List.foldl_nil, List.set_cons_zero, List.set_cons_succ]; exact rfl)) rfl ?_
    refine SPL_one rfl (SP1_slice1 el_90 rfl rfl rfl rfl rfl ?_)
    intro b37
    refine SPL_one rfl (SP1_append el_90 (.inl Tryz.underlying90) rfl rfl hco (by first | exact P0 | exact P1 | exact P2 | exact P3 | exact P4 | exact P5 | exact P6 | exact P7 | exact P8 | exact P9 | exact P10 | exact P11 | exact P12 | exact P13 | exact P14 | exact P15 | exact P16 | exact P17 | exact P18 | exact P19 | exact P20 | exact P21 | exact P22 | exact P23) (Src.of (by repeat (first | exact Cells.all _ | exact Cells.amid hpre rfl (by decide) | exact Cells.head rfl | apply Cells.tail)) (by rfl)) (by rfl) (by omega) rfl ?_)
    intro ka1 kc1 ks1 hA1
    refine SPL_y (y_nil rfl) rfl ?_
    refine SPL_y (y_fa fld_96_6 rfl) rfl ?_
    refine SPL_one rfl (SP1_storeM (j := 6) Tryz.sizeOf90 rfl rfl rfl hpre (by first | exact U0 | exact U1 | exact U2 | exact U3 | exact U4 | exact U5 | exact U6 | exact U7 | exact U8 | exact U9 | exact U10 | exact U11 | exact U12 | exact U13 | exact U14 | exact U15 | exact U16 | exact U17 | exact U18 | exact U19 | exact U20 | exact U21 | exact U22 | exact U23) (by rfl) ?_)
    simp only [List.set_cons_zero, List.set_cons_succ, List.take_succ_cons, List.take_zero, List.drop_succ_cons, List.drop_zero, List.cons_append, List.nil_append]
    rw [show f.consts.length + 1 = (f.consts ++ [(⟨3, 0, t⟩ : V)]).length from by simp] at hA1 ⊢
    rw [show f.consts.flatMap valV ++ _ = (f.consts ++ [(⟨3, 0, t⟩ : V)]).flatMap valV from by rw [List.flatMap_append]; rfl] at hA1
    refine SPL_nil ?_
    refine thenP_n ?_
    refine SP_seq ?_
    refine SP_region ?_
    refine SPL_y (y_move rfl) rfl ?_
    refine SPL_y (y_assign rfl) rfl ?_
    refine SPL_nil ?_
    refine thenP_n ?_
    refine SP_ret ?_
    refine bodyP_ret (H' := [List.flatten [x.head s.np, blk x.fb 96 (c0 ++ [pt x.cb, parV x.fb f.parent, I f.nparams, .slice la f.locals.length lc, I f.nslots, .slice ua f.ups.length uc, .slice ka1 (f.consts ++ [(⟨3, 0, t⟩ : V)]).length kc1, .map (some bn), .map (some bs), .slice oa f.code.length oc, .slice qa f.loops.length qc] ++ c2), s0, ls, us, ks1, sn, s9, os, qs, ql, s2, x.nodes]]) (Res1 rfl rfl) (by repeat (first | exact Part.nil _ | (apply Part.cons; with_reducible (first | exact P0 | exact P1 | exact P2 | exact P3 | exact P4 | exact P5 | exact P6 | exact P7 | exact P8 | exact P9 | exact P10 | exact P11 | exact P12 | exact P13 | exact P14 | exact P15 | exact P16 | exact P17 | exact P18 | exact P19 | exact P20 | exact P21 | exact P22 | exact P23)) | (apply Part.flat; simp only [List.cons_append, List.nil_append]) | (apply Part.cons; (first | exact P0 | exact P1 | exact P2 | exact P3 | exact P4 | exact P5 | exact P6 | exact P7 | exact P8 | exact P9 | exact P10 | exact P11 | exact P12 | exact P13 | exact P14 | exact P15 | exact P16 | exact P17 | exact P18 | exact P19 | exact P20 | exact P21 | exact P22 | exact P23)) | (apply Part.nilc))) ?_
    exact ⟨rfl, _, hput { f with strs := f.strs ++ [(t, u16 f.consts.length)], consts := f.consts ++ [(⟨3, 0, t⟩ : V)] } la lc ua uc ka1 kc1 oa oc qa qc bn bs ls us ks1 sn s9 os qs ql lcs rfl hlo hup hA1 hcd hlp hlr hM1 h9, rfl⟩
  · refine SPL_y (y_assign rfl) rfl ?_
    refine SPL_y (y_assign rfl) rfl ?_
    refine SPL_nil ?_
    refine thenP_n ?_
    refine SP_seq ?_
    refine SP_seq ?_
    refine SP_region ?_
    refine SPL_y (y_move rfl) rfl ?_
    refine SPL_y (y_not_t rfl) rfl ?_
    refine SPL_nil ?_
    refine thenP_n ?_
    refine SP_cond_f rfl ?_
    refine SP_skip ?_
    refine thenP_n ?_
    refine SP_seq ?_
    obtain ⟨p, rfl⟩ := Option.isSome_iff_exists.1 hok
    dsimp only at hP
    injection hP with hP
    injection hP with h1 h2
    subst h1
    subst h2
    refine SP_region ?_
    refine SPL_y (y_move rfl) rfl ?_
    refine SPL_y (y_assign rfl) rfl ?_
    refine SPL_nil ?_
    refine thenP_n ?_
    refine SP_ret ?_
    refine bodyP_ret (H' := [List.flatten [x.head s.np, blk x.fb 96 (c0 ++ [pt x.cb, parV x.fb f.parent, I f.nparams, .slice la f.locals.length lc, I f.nslots, .slice ua f.ups.length uc, .slice ka f.consts.length kc, .map (some bn), .map (some bs), .slice oa f.code.length oc, .slice qa f.loops.length qc] ++ c2), s0, ls, us, ks, sn, ss, os, qs, ql, s2, x.nodes]]) (Res1 rfl rfl) (by repeat (first | exact Part.nil _ | (apply Part.cons; with_reducible (first | exact P0 | exact P1 | exact P2 | exact P3 | exact P4 | exact P5 | exact P6 | exact P7 | exact P8 | exact P9 | exact P10 | exact P11 | exact P12 | exact P13 | exact P14 | exact P15 | exact P16 | exact P17 | exact P18 | exact P19 | exact P20 | exact P21 | exact P22 | exact P23)) | (apply Part.flat; simp only [List.cons_append, List.nil_append]) | (apply Part.cons; (first | exact P0 | exact P1 | exact P2 | exact P3 | exact P4 | exact P5 | exact P6 | exact P7 | exact P8 | exact P9 | exact P10 | exact P11 | exact P12 | exact P13 | exact P14 | exact P15 | exact P16 | exact P17 | exact P18 | exact P19 | exact P20 | exact P21 | exact P22 | exact P23)) | (apply Part.nilc))) ?_
    exact ⟨rfl, _, hC0, rfl⟩

theorem cp_open (x : CX) {k : Nat} {s s' : CS} {base : Int} (hP : openM k base s = some s') (seg : Seg) (hC : isC x s seg) : Spec Tryz.prog 255 [fp x.fb k, I base] [seg] (Ret (cOk x s')) := by
  unfold openM at hP
  obtain ⟨f, hf, hP⟩ := bnd1 hP
  obtain ⟨la, lc, ua, uc, ka, kc, oa, oc, qa, qc, bn, bs, ls, us, ks, sn, ss, os, qs, ql, c0, c2, lcs, s0, s2, rfl, hpre, hlo, hup, hco, hcd, hlp, hlr, hM1, hM2, hput⟩ := hC.opn hf
  refine Spec_openAt [x.head s.np, blk x.fb 96 (c0 ++ [pt x.cb, parV x.fb f.parent, I f.nparams, .slice la f.locals.length lc, I f.nslots, .slice ua f.ups.length uc, .slice ka f.consts.length kc, .map (some bn), .map (some bs), .slice oa f.code.length oc, .slice qa f.loops.length qc] ++ c2), s0, ls, us, ks, sn, ss, os, qs, ql, s2, x.nodes] (by first | exact P0 | exact P1 | exact P2 | exact P3 | exact P4 | exact P5 | exact P6 | exact P7 | exact P8 | exact P9 | exact P10 | exact P11 | exact P12 | exact P13 | exact P14 | exact P15 | exact P16 | exact P17 | exact P18 | exact P19 | exact P20 | exact P21 | exact P22 | exact P23) ?_
  simp only [List.cons_append, List.nil_append]
  have hlen : f.loops.length < 1000000 := Decidable.byContradiction fun q => by rw [if_neg q] at hP; cases hP
  rw [if_pos hlen] at hP
  injection hP with hP
  subst hP
  refine Spec_enter Tryz.func255 rfl Tryz.ntmps255 rfl ?_
  show SP _ _ _ _ _ [(0, _), (1, _)] _
  refine SP_region ?_
  refine SPL_y (y_move rfl) rfl ?_
  refine SPL_y (y_move rfl) rfl ?_
  refine SPL_y (y_nil rfl) rfl ?_
  refine SPL_y (y_fa fld_96_10 rfl) rfl ?_
  refine SPL_y (y_load Tryz.isAgg94 rfl (by repeat (first | exact Cell.amid hpre rfl | exact Cell.head rfl | apply Cell.tail))) rfl ?_
  refine SPL_y (y_move rfl) rfl ?_
  refine SPL_y (y_build B163 rfl rfl (by simp only [fillL, List.foldl_cons, List.foldl_nil, List.set_cons_zero, List.set_cons_succ]; exact rfl)) rfl ?_
  refine SPL_one rfl (SP1_slice1 el_94 rfl rfl rfl rfl rfl ?_)
  intro b11
  refine SPL_one rfl (SP1_append el_94 (.inl Tryz.underlying94) rfl rfl hlp (by first | exact P0 | exact P1 | exact P2 | exact P3 | exact P4 | exact P5 | exact P6 | exact P7 | exact P8 | exact P9 | exact P10 | exact P11 | exact P12 | exact P13 | exact P14 | exact P15 | exact P16 | exact P17 | exact P18 | exact P19 | exact P20 | exact P21 | exact P22 | exact P23) (Src.of (by repeat (first | exact Cells.all _ | exact Cells.amid hpre rfl (by decide) | exact Cells.head rfl | apply Cells.tail)) (by rfl)) (by rfl) (by omega) rfl ?_)
  intro qa1 qc1 qs1 hA1
  refine SPL_y (y_nil rfl) rfl ?_
  refine SPL_y (y_fa fld_96_10 rfl) rfl ?_
  refine SPL_one rfl (SP1_storeM (j := 10) Tryz.sizeOf94 rfl rfl rfl hpre (by first | exact U0 | exact U1 | exact U2 | exact U3 | exact U4 | exact U5 | exact U6 | exact U7 | exact U8 | exact U9 | exact U10 | exact U11 | exact U12 | exact U13 | exact U14 | exact U15 | exact U16 | exact U17 | exact U18 | exact U19 | exact U20 | exact U21 | exact U22 | exact U23) (by rfl) ?_)
  simp only [List.set_cons_zero, List.set_cons_succ, List.take_succ_cons, List.take_zero, List.drop_succ_cons, List.drop_zero, List.cons_append, List.nil_append]
  rw [show f.loops.length + 1 = (f.loops ++ [(base, [])]).length from by simp] at hA1 ⊢
  have hR1 : Rws (loopR x.fb) (f.loops ++ [(base, [])]) (lcs ++ [I base, .slice none 0 0]) ql := by
    have h1 : Rws (loopR x.fb) [(base, [])] [I base, .slice none 0 0] [] := Rws.single ⟨none, 0, [], [], [], rfl, rfl, Arr.nil _ _, Rws.nil⟩
    have h2 := Rws.app hlr h1
    rw [List.append_nil] at h2
    exact h2
  refine SPL_nil ?_
  refine bodyP_end (H' := [List.flatten [x.head s.np, blk x.fb 96 (c0 ++ [pt x.cb, parV x.fb f.parent, I f.nparams, .slice la f.locals.length lc, I f.nslots, .slice ua f.ups.length uc, .slice ka f.consts.length kc, .map (some bn), .map (some bs), .slice oa f.code.length oc, .slice qa1 (f.loops ++ [(base, [])]).length qc1] ++ c2), s0, ls, us, ks, sn, ss, os, qs1, ql, s2, x.nodes]]) (Res0 rfl) (by repeat (first | exact Part.nil _ | (apply Part.cons; with_reducible (first | exact P0 | exact P1 | exact P2 | exact P3 | exact P4 | exact P5 | exact P6 | exact P7 | exact P8 | exact P9 | exact P10 | exact P11 | exact P12 | exact P13 | exact P14 | exact P15 | exact P16 | exact P17 | exact P18 | exact P19 | exact P20 | exact P21 | exact P22 | exact P23)) | (apply Part.flat; simp only [List.cons_append, List.nil_append]) | (apply Part.cons; (first | exact P0 | exact P1 | exact P2 | exact P3 | exact P4 | exact P5 | exact P6 | exact P7 | exact P8 | exact P9 | exact P10 | exact P11 | exact P12 | exact P13 | exact P14 | exact P15 | exact P16 | exact P17 | exact P18 | exact P19 | exact P20 | exact P21 | exact P22 | exact P23)) | (apply Part.nilc))) ?_
  exact ⟨rfl, _, hput { f with loops := f.loops ++ [(base, [])] } la lc ua uc ka kc oa oc qa1 qc1 bn bs ls us ks sn ss os qs1 ql (lcs ++ [I base, .slice none 0 0]) rfl hlo hup hco hcd hA1 hR1 hM1 hM2, rfl⟩

theorem cf_jump (fb k : Nat) (c0 c2 : List Value) (hpre : c0.length = 0 + k * 11) (r0 r1 r2 r3 r4 r5 r6 r7 r8 r10 : Value) (oa : Option Addr) (oc : Nat) (os : Seg) (code : List In) (op : Int) (hcd : Arr 99 2 oa code.length oc (code.flatMap insV) os) (hl : code.length + 1 ≤ 1000000) :
    Spec Tryz.prog 205 [fp fb k, .int .u8 op] [blk fb 96 (c0 ++ [r0, r1, r2, r3, r4, r5, r6, r7, r8, .slice oa code.length oc, r10] ++ c2), os] (Ret fun v H => ∃ b2 b5 oa oc os, v = patV b2 b5 ∧ Arr 99 2 oa (code ++ [(op, 65535)]).length oc ((code ++ [(op, 65535)]).flatMap insV) os ∧ H = [blk fb 96 (c0 ++ [r0, r1, r2, r3, r4, r5, r6, r7, r8, .slice oa (code ++ [(op, 65535)]).length oc, r10] ++ c2), os, blk b2 87 [fp fb k], blk b5 3 [I code.length]]) := by
  refine Spec_enter Tryz.func205 rfl Tryz.ntmps205 rfl ?_
  show SP _ _ _ _ _ [(0, _), (1, _)] _
  refine SP_seq ?_
  refine SP_region ?_
  refine SPL_one rfl (SP1_box rfl rfl rfl ?_)
  intro b2
  refine SPL_y (y_assign rfl) rfl ?_
  refine SPL_nil ?_
  refine thenP_n ?_
  refine SP_seq ?_
  refine SP_region ?_
  refine SPL_y (y_load Tryz.isAgg87 rfl (by repeat (first | exact Cell.amid hpre rfl | exact Cell.head rfl | apply Cell.tail))) rfl ?_
  refine SPL_y (y_nil rfl) rfl ?_
  refine SPL_y (y_fa fld_96_9 rfl) rfl ?_
  refine SPL_y (y_load Tryz.isAgg93 rfl (by repeat (first | exact Cell.amid hpre rfl | exact Cell.head rfl | apply Cell.tail))) rfl ?_
  refine SPL_y (y_len_l Tryz.underlying93 rfl) rfl ?_
  refine SPL_one rfl (SP1_alloc Tryz.zeroValue3 rfl rfl ?_)
  intro b5
  refine SPL_one rfl (SP1_store Tryz.sizeOf3 rfl rfl rfl (by first | exact U0 | exact U1 | exact U2 | exact U3 | exact U4 | exact U5 | exact U6 | exact U7 | exact U8 | exact U9 | exact U10 | exact U11 | exact U12 | exact U13 | exact U14 | exact U15 | exact U16 | exact U17 | exact U18 | exact U19 | exact U20 | exact U21 | exact U22 | exact U23) (by rfl) ?_)
  refine SPL_nil ?_
  refine thenP_n ?_
  refine SP_seq ?_
  refine SP_region ?_
  refine SPL_y (y_load Tryz.isAgg87 rfl (by repeat (first | exact Cell.amid hpre rfl | exact Cell.head rfl | apply Cell.tail))) rfl ?_
  refine SPL_y (y_move rfl) rfl ?_
  refine SPL_y (y_build B99 rfl rfl (by simp only [fillL, List.foldl_cons, List.foldl_nil, List.set_cons_zero, List.set_cons_succ]; exact rfl)) rfl ?_
  refine SPL_one rfl (SP1_slice1 el_93 rfl rfl rfl rfl rfl ?_)
  intro b14
  refine SPL_one rfl (SP1_call (cf_emit fb k c0 c2 hpre r0 r1 r2 r3 r4 r5 r6 r7 r8 r10 oa oc os code [(op, 65535)] _ hcd hl) Tryz.call73 rfl rfl (by repeat (first | exact Part.nil _ | (apply Part.cons; with_reducible (first | exact P0 | exact P1 | exact P2 | exact P3 | exact P4 | exact P5 | exact P6 | exact P7 | exact P8 | exact P9 | exact P10 | exact P11 | exact P12 | exact P13 | exact P14 | exact P15 | exact P16 | exact P17 | exact P18 | exact P19 | exact P20 | exact P21 | exact P22 | exact P23)) | (apply Part.flat; simp only [List.cons_append, List.nil_append]) | (apply Part.cons; (first | exact P0 | exact P1 | exact P2 | exact P3 | exact P4 | exact P5 | exact P6 | exact P7 | exact P8 | exact P9 | exact P10 | exact P11 | exact P12 | exact P13 | exact P14 | exact P15 | exact P16 | exact P17 | exact P18 | exact P19 | exact P20 | exact P21 | exact P22 | exact P23)) | (apply Part.nilc))) ?_)
  rintro v post H' ⟨rfl, oa1, oc1, os1, hA1, rfl⟩ hH
  try simp only [List.cons_append, List.nil_append] at hH
  subst hH
  refine SPL_nil ?_
  refine thenP_n ?_
  refine SP_seq ?_
  refine SP_region ?_
  refine SPL_y (y_mkf rfl rfl) rfl ?_
  refine SPL_y (y_assign rfl) rfl ?_
  refine SPL_nil ?_
  refine thenP_n ?_
  refine SP_ret ?_
  refine bodyP_ret (H' := [blk fb 96 (c0 ++ [r0, r1, r2, r3, r4, r5, r6, r7, r8, .slice oa1 (code ++ [(op, 65535)]).length oc1, r10] ++ c2), os1, blk b2 87 [fp fb k], blk b5 3 [I code.length]]) (Res1 rfl rfl) (by repeat (first | exact Part.nil _ | (apply Part.cons; with_reducible (first | exact P0 | exact P1 | exact P2 | exact P3 | exact P4 | exact P5 | exact P6 | exact P7 | exact P8 | exact P9 | exact P10 | exact P11 | exact P12 | exact P13 | exact P14 | exact P15 | exact P16 | exact P17 | exact P18 | exact P19 | exact P20 | exact P21 | exact P22 | exact P23)) | (apply Part.flat; simp only [List.cons_append, List.nil_append]) | (apply Part.cons; (first | exact P0 | exact P1 | exact P2 | exact P3 | exact P4 | exact P5 | exact P6 | exact P7 | exact P8 | exact P9 | exact P10 | exact P11 | exact P12 | exact P13 | exact P14 | exact P15 | exact P16 | exact P17 | exact P18 | exact P19 | exact P20 | exact P21 | exact P22 | exact P23)) | (apply Part.nilc))) ?_
  exact ⟨b2, b5, oa1, oc1, os1, rfl, hA1, rfl⟩

def cOkJ (x : CX) (k : Nat) (a : Int) (s : CS) (v : Value) (H : Hp) : Prop := ∃ b2 b5 seg, v = patV b2 b5 ∧ isC x s seg ∧ H = [seg, blk b2 87 [fp x.fb k], blk b5 3 [I a]]
theorem cp_jump (x : CX) {k : Nat} {op a : Int} {s s' : CS} (hP : jumpM k op s = some (a, s')) (seg : Seg) (hC : isC x s seg) : Spec Tryz.prog 205 [fp x.fb k, .int .u8 op] [seg] (Ret (cOkJ x k a s')) := by
  unfold jumpM at hP
  obtain ⟨f, hf, hP⟩ := bnd1 hP
  obtain ⟨s1, he, hP⟩ := bnd1 hP
  injection hP with hP
  injection hP with h1 h2
  subst h1
  subst h2
  unfold emitM at he
  rw [hf] at he
  dsimp only [bind1] at he
  have hlen : f.code.length + ([(op, 65535)] : List In).length ≤ 1000000 := Decidable.byContradiction fun q => by rw [if_neg q] at he; cases he
  rw [if_pos hlen] at he
  injection he with he
  subst he
  obtain ⟨la, lc, ua, uc, ka, kc, oa, oc, qa, qc, bn, bs, ls, us, ks, sn, ss, os, qs, ql, c0, c2, lcs, s0, s2, rfl, hpre, hlo, hup, hco, hcd, hlp, hlr, hM1, hM2, hput⟩ := hC.opn hf
  refine Spec_openAt [x.head s.np, blk x.fb 96 (c0 ++ [pt x.cb, parV x.fb f.parent, I f.nparams, .slice la f.locals.length lc, I f.nslots, .slice ua f.ups.length uc, .slice ka f.consts.length kc, .map (some bn), .map (some bs), .slice oa f.code.length oc, .slice qa f.loops.length qc] ++ c2), s0, ls, us, ks, sn, ss, os, qs, ql, s2, x.nodes] (by first | exact P0 | exact P1 | exact P2 | exact P3 | exact P4 | exact P5 | exact P6 | exact P7 | exact P8 | exact P9 | exact P10 | exact P11 | exact P12 | exact P13 | exact P14 | exact P15 | exact P16 | exact P17 | exact P18 | exact P19 | exact P20 | exact P21 | exact P22 | exact P23) ?_
  simp only [List.cons_append, List.nil_append]
  refine Spec_part (cf_jump x.fb k c0 c2 hpre _ _ _ _ _ _ _ _ _ _ oa oc os f.code op hcd hlen) (by repeat (first | exact Part.nil _ | (apply Part.cons; with_reducible (first | exact P0 | exact P1 | exact P2 | exact P3 | exact P4 | exact P5 | exact P6 | exact P7 | exact P8 | exact P9 | exact P10 | exact P11 | exact P12 | exact P13 | exact P14 | exact P15 | exact P16 | exact P17 | exact P18 | exact P19 | exact P20 | exact P21 | exact P22 | exact P23)) | (apply Part.flat; simp only [List.cons_append, List.nil_append]) | (apply Part.cons; (first | exact P0 | exact P1 | exact P2 | exact P3 | exact P4 | exact P5 | exact P6 | exact P7 | exact P8 | exact P9 | exact P10 | exact P11 | exact P12 | exact P13 | exact P14 | exact P15 | exact P16 | exact P17 | exact P18 | exact P19 | exact P20 | exact P21 | exact P22 | exact P23)) | (apply Part.nilc))) ?_
  rintro v post ⟨b2, b5, oa1, oc1, os1, rfl, hA, rfl⟩
  simp only [List.cons_append, List.nil_append]
  exact ⟨[List.flatten [x.head s.np, blk x.fb 96 (c0 ++ [pt x.cb, parV x.fb f.parent, I f.nparams, .slice la f.locals.length lc, I f.nslots, .slice ua f.ups.length uc, .slice ka f.consts.length kc, .map (some bn), .map (some bs), .slice oa1 (f.code ++ [(op, 65535)]).length oc1, .slice qa f.loops.length qc] ++ c2), s0, ls, us, ks, sn, ss, os1, qs, ql, s2, x.nodes], blk b2 87 [fp x.fb k], blk b5 3 [I f.code.length]], ⟨b2, b5, _, rfl, hput { f with code := f.code ++ [(op, 65535)] } la lc ua uc ka kc oa1 oc1 qa qc bn bs ls us ks sn ss os1 qs ql lcs rfl hlo hup hco hA hlp hlr hM1 hM2, rfl⟩, _, (by repeat (first | exact Part.nil _ | (apply Part.cons; with_reducible (first | exact P0 | exact P1 | exact P2 | exact P3 | exact P4 | exact P5 | exact P6 | exact P7 | exact P8 | exact P9 | exact P10 | exact P11 | exact P12 | exact P13 | exact P14 | exact P15 | exact P16 | exact P17 | exact P18 | exact P19 | exact P20 | exact P21 | exact P22 | exact P23)) | (apply Part.flat; simp only [List.cons_append, List.nil_append]) | (apply Part.cons; (first | exact P0 | exact P1 | exact P2 | exact P3 | exact P4 | exact P5 | exact P6 | exact P7 | exact P8 | exact P9 | exact P10 | exact P11 | exact P12 | exact P13 | exact P14 | exact P15 | exact P16 | exact P17 | exact P18 | exact P19 | exact P20 | exact P21 | exact P22 | exact P23)) | (apply Part.nilc)))⟩
theorem cp_patch (x : CX) {k : Nat} {a : Int} {s s' : CS} (hP : patchM k a s = some s') (b2 b5 : Nat) (seg : Seg) (hC : isC x s seg) : Spec Tryz.prog 257 [pt b2, pt b5] [seg, blk b2 87 [fp x.fb k], blk b5 3 [I a]] (Ret (cOk x s')) := by
  unfold patchM at hP
  obtain ⟨f, hf, hP⟩ := bnd1 hP
  obtain ⟨la, lc, ua, uc, ka, kc, oa, oc, qa, qc, bn, bs, ls, us, ks, sn, ss, os, qs, ql, c0, c2, lcs, s0, s2, rfl, hpre, hlo, hup, hco, hcd, hlp, hlr, hM1, hM2, hput⟩ := hC.opn hf
  refine Spec_openAt [x.head s.np, blk x.fb 96 (c0 ++ [pt x.cb, parV x.fb f.parent, I f.nparams, .slice la f.locals.length lc, I f.nslots, .slice ua f.ups.length uc, .slice ka f.consts.length kc, .map (some bn), .map (some bs), .slice oa f.code.length oc, .slice qa f.loops.length qc] ++ c2), s0, ls, us, ks, sn, ss, os, qs, ql, s2, x.nodes] (by first | exact P0 | exact P1 | exact P2 | exact P3 | exact P4 | exact P5 | exact P6 | exact P7 | exact P8 | exact P9 | exact P10 | exact P11 | exact P12 | exact P13 | exact P14 | exact P15 | exact P16 | exact P17 | exact P18 | exact P19 | exact P20 | exact P21 | exact P22 | exact P23) ?_
  simp only [List.cons_append, List.nil_append]
  have hlen : 0 ≤ a ∧ a < f.code.length := Decidable.byContradiction fun q => by rw [if_neg q] at hP; cases hP
  rw [if_pos hlen] at hP
  injection hP with hP
  subst hP
  obtain ⟨ob, osp, rfl, hoc2, hosp, rfl⟩ := hcd.row (by omega)
  have hat : a.toNat < f.code.length := by omega
  obtain ⟨L, hL⟩ : ∃ L, L = (f.code.set a.toNat ((f.code.getD a.toNat (0, 0)).1, u16 f.code.length)) := ⟨_, rfl⟩
  have hl1 : f.code.length = L.length := by rw [hL]; simp
  rw [← hL]
  refine Spec_enter Tryz.func257 rfl Tryz.ntmps257 rfl ?_
  show SP _ _ _ _ _ [(0, _), (1, _)] _
  refine SP_draw 13 [(0, 1), (1, 0), (2, 0), (3, 1), (4, 1), (5, 1), (6, 0), (7, 0), (8, 1), (9, 0), (10, 0), (11, 0), (12, 0), (13, 3)] mixed (by kernel_rfl) (fun _ _ _ _ _ h => h) (Part.refl _) ?_
  refine SPO_h rfl (y_load Tryz.isAgg87 rfl (by repeat (first | exact Cell.amid hpre rfl | exact Cell.head rfl | apply Cell.tail))) rfl ?_
  refine SPO_p rfl (y_nil rfl) rfl ?_
  refine SPO_p rfl (y_fa fld_96_9 rfl) rfl ?_
  refine SPO_h rfl (y_load Tryz.isAgg93 rfl (by repeat (first | exact Cell.amid hpre rfl | exact Cell.head rfl | apply Cell.tail))) rfl ?_
  refine SPO_h rfl (y_load Tryz.isAgg3 rfl (by repeat (first | exact Cell.amid hpre rfl | exact Cell.head rfl | apply Cell.tail))) rfl ?_
  refine SPO_h rfl (y_load Tryz.isAgg87 rfl (by repeat (first | exact Cell.amid hpre rfl | exact Cell.head rfl | apply Cell.tail))) rfl ?_
  refine SPO_p rfl (y_nil rfl) rfl ?_
  refine SPO_p rfl (y_fa fld_96_9 rfl) rfl ?_
  refine SPO_h rfl (y_load Tryz.isAgg93 rfl (by repeat (first | exact Cell.amid hpre rfl | exact Cell.head rfl | apply Cell.tail))) rfl ?_
  refine SPO_p rfl (y_len_l Tryz.underlying93 rfl) rfl ?_
  refine SPO_p rfl (y_conv Tryz.underlying3 Tryz.underlying97 rfl rfl) rfl ?_
  refine SPO_p rfl (y_ia Tryz.underlying93 Tryz.sizeOf99 rfl rfl (by omega)) rfl ?_
  refine SPO_p rfl (y_fa fld_99_1 rfl) rfl ?_
  refine SPO_z (k := 0) rfl rfl (SP1_storeF (x := ((f.code.getD a.toNat (0, 0)).1, u16 f.code.length)) insV_len Tryz.sizeOf97 rfl rfl rfl (by omega) hat (by decide) (by rw [List.getD_eq_getElem?_getD, List.getElem?_eq_getElem hat]; rfl) (by first | exact U0 | exact U1 | exact U2 | exact U3 | exact U4 | exact U5 | exact U6 | exact U7 | exact U8 | exact U9 | exact U10 | exact U11 | exact U12 | exact U13 | exact U14 | exact U15 | exact U16 | exact U17 | exact U18 | exact U19 | exact U20 | exact U21 | exact U22 | exact U23) ?_)
  rw [← hL]
  refine SPO_nil ?_
  refine bodyP_end (H' := [List.flatten [x.head s.np, blk x.fb 96 (c0 ++ [pt x.cb, parV x.fb f.parent, I f.nparams, .slice la f.locals.length lc, I f.nslots, .slice ua f.ups.length uc, .slice ka f.consts.length kc, .map (some bn), .map (some bs), .slice (some ⟨ob, 0, none⟩) f.code.length oc, .slice qa f.loops.length qc] ++ c2), s0, ls, us, ks, sn, ss, (blk ob 99 (L.flatMap insV ++ osp)), qs, ql, s2, x.nodes]]) (Res0 rfl) (by repeat (first | exact Part.nil _ | (apply Part.cons; with_reducible (first | exact P0 | exact P1 | exact P2 | exact P3 | exact P4 | exact P5 | exact P6 | exact P7 | exact P8 | exact P9 | exact P10 | exact P11 | exact P12 | exact P13 | exact P14 | exact P15 | exact P16 | exact P17 | exact P18 | exact P19 | exact P20 | exact P21 | exact P22 | exact P23)) | (apply Part.flat; simp only [List.cons_append, List.nil_append]) | (apply Part.cons; (first | exact P0 | exact P1 | exact P2 | exact P3 | exact P4 | exact P5 | exact P6 | exact P7 | exact P8 | exact P9 | exact P10 | exact P11 | exact P12 | exact P13 | exact P14 | exact P15 | exact P16 | exact P17 | exact P18 | exact P19 | exact P20 | exact P21 | exact P22 | exact P23)) | (apply Part.nilc))) ?_
  exact ⟨rfl, _, hput { f with code := L } la lc ua uc ka kc (some ⟨ob, 0, none⟩) oc qa qc bn bs ls us ks sn ss (blk ob 99 (L.flatMap insV ++ osp)) qs ql lcs rfl hlo hup hco (Arr.mk (by rw [flat_len insV_len]) (by rw [← hl1]; exact hoc2) (by rw [← hl1]; exact hosp)) hlp hlr hM1 hM2, by rw [hl1]⟩

end Go.Sl
