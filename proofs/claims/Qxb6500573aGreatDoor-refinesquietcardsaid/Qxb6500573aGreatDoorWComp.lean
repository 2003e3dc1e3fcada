/- Walks: package comp, a function state (made by program out of short notes) -/
import Derived.Test.Qxb6500573aGreatDoorAH
import Derived.Test.Qxb6500573aGreatDoorSlDf
namespace Go.Sl
open Go Go.Wl Go.Proofs
set_option maxRecDepth 100000
set_option linter.unusedVariables false
set_option linter.unusedSimpArgs false
def cOk (x : CX) (s : CS) (v : Value) (H : Hp) : Prop := v = .tuple #[] ∧ ∃ seg, isC x s seg ∧ H = [seg]
def cOkI (x : CX) (i : Int) (s : CS) (v : Value) (H : Hp) : Prop := v = I i ∧ ∃ seg, isC x s seg ∧ H = [seg]
def cOkW (x : CX) (i : Int) (s : CS) (v : Value) (H : Hp) : Prop := v = .int .u16 i ∧ ∃ seg, isC x s seg ∧ H = [seg]
theorem insV_one (l : List In) : (l.flatMap insV).all Value.oneCell' = true := by
  induction l with
  | nil => rfl
  | cons x l ih => rw [List.flatMap_cons, List.all_append, ih, Bool.and_true]; rfl
theorem cf_emit (fb k : Nat) (c0 c2 : List Value) (hpre : c0.length = 0 + k * 11) (r0 r1 r2 r3 r4 r5 r6 r7 r8 r10 : Value) (oa : Option Addr) (oc : Nat) (os : Seg) (code l : List In) (b : Nat) (hcd : Arr 99 2 oa code.length oc (code.flatMap insV) os) (hl : code.length + l.length ≤ 1000000) :
    Spec Tryz.prog 73 [fp fb k, .slice (some ⟨b, 0, none⟩) l.length l.length] [blk fb 96 (c0 ++ [r0, r1, r2, r3, r4, r5, r6, r7, r8, .slice oa code.length oc, r10] ++ c2), os, blk b 99 (l.flatMap insV)] (Ret fun v H => v = .tuple #[] ∧ ∃ oa oc os, Arr 99 2 oa (code ++ l).length oc ((code ++ l).flatMap insV) os ∧ H = [blk fb 96 (c0 ++ [r0, r1, r2, r3, r4, r5, r6, r7, r8, .slice oa (code ++ l).length oc, r10] ++ c2), os]) := by
  refine Spec_enter Tryz.func73 rfl Tryz.ntmps73 rfl ?_
  show SP _ _ _ _ _ [(0, _), (1, _)] _
  refine SP_region ?_
  refine SPL_y (y_move rfl) rfl ?_
  refine SPL_y (y_move rfl) rfl ?_
  refine SPL_y (y_nil rfl) rfl ?_
  refine SPL_y (y_fa fld_96_9 rfl) rfl ?_
  refine SPL_y (y_load Tryz.isAgg93 rfl (by repeat (first | exact Cell.amid hpre rfl | exact Cell.head rfl | apply Cell.tail))) rfl ?_
  refine SPL_y (y_move rfl) rfl ?_
  refine SPL_one rfl (SP1_append el_93 (.inl Tryz.underlying93) rfl rfl hcd (by first | exact P0 | exact P1 | exact P2 | exact P3 | exact P4 | exact P5 | exact P6 | exact P7 | exact P8 | exact P9 | exact P10 | exact P11 | exact P12 | exact P13 | exact P14 | exact P15 | exact P16 | exact P17 | exact P18 | exact P19 | exact P20 | exact P21 | exact P22 | exact P23) (Src.of (by repeat (first | exact Cells.all _ | exact Cells.amid hpre rfl (by decide) | exact Cells.head rfl | apply Cells.tail)) (flat_len insV_len _)) (insV_one _) (by omega) rfl ?_)
  intro oa1 oc1 os1 hA1
  refine SPL_y (y_nil rfl) rfl ?_
  refine SPL_y (y_fa fld_96_9 rfl) rfl ?_
  refine SPL_one rfl (SP1_storeM (j := 9) Tryz.sizeOf93 rfl rfl rfl hpre (by first | exact U0 | exact U1 | exact U2 | exact U3 | exact U4 | exact U5 | exact U6 | exact U7 | exact U8 | exact U9 | exact U10 | exact U11 | exact U12 | exact U13 | exact U14 | exact U15 | exact U16 | exact U17 | exact U18 | exact U19 | exact U20 | exact U21 | exact U22 | exact U23) (by rfl) ?_)
  simp only [List.set_cons_zero, List.set_cons_succ, List.take_succ_cons, List.take_zero, List.drop_succ_cons, List.drop_zero, List.cons_append, List.nil_append]
  rw [show code.length + l.length = (code ++ l).length from List.length_append.symm, ← List.flatMap_append] at hA1
  rw [show code.length + l.length = (code ++ l).length from List.length_append.symm]
  refine SPL_nil ?_
  refine bodyP_end (H' := [blk fb 96 (c0 ++ [r0, r1, r2, r3, r4, r5, r6, r7, r8, .slice oa1 (code ++ l).length oc1, r10] ++ c2), os1]) (Res0 rfl) (by repeat (first | exact Part.nil _ | (apply Part.cons; with_reducible (first | exact P0 | exact P1 | exact P2 | exact P3 | exact P4 | exact P5 | exact P6 | exact P7 | exact P8 | exact P9 | exact P10 | exact P11 | exact P12 | exact P13 | exact P14 | exact P15 | exact P16 | exact P17 | exact P18 | exact P19 | exact P20 | exact P21 | exact P22 | exact P23)) | (apply Part.flat; simp only [List.cons_append, List.nil_append]) | (apply Part.cons; (first | exact P0 | exact P1 | exact P2 | exact P3 | exact P4 | exact P5 | exact P6 | exact P7 | exact P8 | exact P9 | exact P10 | exact P11 | exact P12 | exact P13 | exact P14 | exact P15 | exact P16 | exact P17 | exact P18 | exact P19 | exact P20 | exact P21 | exact P22 | exact P23)) | (apply Part.nilc))) ?_
  exact ⟨rfl, oa1, oc1, os1, hA1, rfl⟩

theorem cp_emit (x : CX) {k : Nat} {l : List In} {s s' : CS} (b : Nat) (hP : emitM k l s = some s') (seg : Seg) (hC : isC x s seg) : Spec Tryz.prog 73 [fp x.fb k, .slice (some ⟨b, 0, none⟩) l.length l.length] [seg, blk b 99 (l.flatMap insV)] (Ret (cOk x s')) := by
  unfold emitM at hP
  obtain ⟨f, hf, hP⟩ := bnd1 hP
  have hlen : f.code.length + l.length ≤ 1000000 := Decidable.byContradiction fun q => by rw [if_neg q] at hP; cases hP
  rw [if_pos hlen] at hP
  injection hP with hP
  subst hP
  obtain ⟨la, lc, ua, uc, ka, kc, oa, oc, qa, qc, bn, bs, ls, us, ks, sn, ss, os, qs, ql, c0, c2, lcs, s0, s2, rfl, hpre, hlo, hup, hco, hcd, hlp, hlr, hM1, hM2, hput⟩ := hC.opn hf
  refine Spec_openAt [x.head s.np, blk x.fb 96 (c0 ++ [pt x.cb, parV x.fb f.parent, I f.nparams, .slice la f.locals.length lc, I f.nslots, .slice ua f.ups.length uc, .slice ka f.consts.length kc, .map (some bn), .map (some bs), .slice oa f.code.length oc, .slice qa f.loops.length qc] ++ c2), s0, ls, us, ks, sn, ss, os, qs, ql, s2, x.nodes] (by first | exact P0 | exact P1 | exact P2 | exact P3 | exact P4 | exact P5 | exact P6 | exact P7 | exact P8 | exact P9 | exact P10 | exact P11 | exact P12 | exact P13 | exact P14 | exact P15 | exact P16 | exact P17 | exact P18 | exact P19 | exact P20 | exact P21 | exact P22 | exact P23) ?_
  simp only [List.cons_append, List.nil_append]
  refine Spec_part (cf_emit x.fb k c0 c2 hpre _ _ _ _ _ _ _ _ _ _ oa oc os f.code l b hcd hlen) (by repeat (first | exact Part.nil _ | (apply Part.cons; with_reducible (first | exact P0 | exact P1 | exact P2 | exact P3 | exact P4 | exact P5 | exact P6 | exact P7 | exact P8 | exact P9 | exact P10 | exact P11 | exact P12 | exact P13 | exact P14 | exact P15 | exact P16 | exact P17 | exact P18 | exact P19 | exact P20 | exact P21 | exact P22 | exact P23)) | (apply Part.flat; simp only [List.cons_append, List.nil_append]) | (apply Part.cons; (first | exact P0 | exact P1 | exact P2 | exact P3 | exact P4 | exact P5 | exact P6 | exact P7 | exact P8 | exact P9 | exact P10 | exact P11 | exact P12 | exact P13 | exact P14 | exact P15 | exact P16 | exact P17 | exact P18 | exact P19 | exact P20 | exact P21 | exact P22 | exact P23)) | (apply Part.nilc))) ?_
  rintro v post ⟨rfl, oa1, oc1, os1, hA, rfl⟩
  simp only [List.cons_append, List.nil_append]
  exact ⟨[List.flatten [x.head s.np, blk x.fb 96 (c0 ++ [pt x.cb, parV x.fb f.parent, I f.nparams, .slice la f.locals.length lc, I f.nslots, .slice ua f.ups.length uc, .slice ka f.consts.length kc, .map (some bn), .map (some bs), .slice oa1 (f.code ++ l).length oc1, .slice qa f.loops.length qc] ++ c2), s0, ls, us, ks, sn, ss, os1, qs, ql, s2, x.nodes]], ⟨rfl, _, hput { f with code := f.code ++ l } la lc ua uc ka kc oa1 oc1 qa qc bn bs ls us ks sn ss os1 qs ql lcs rfl hlo hup hco hA hlp hlr hM1 hM2, rfl⟩, _, (by repeat (first | exact Part.nil _ | (apply Part.cons; with_reducible (first | exact P0 | exact P1 | exact P2 | exact P3 | exact P4 | exact P5 | exact P6 | exact P7 | exact P8 | exact P9 | exact P10 | exact P11 | exact P12 | exact P13 | exact P14 | exact P15 | exact P16 | exact P17 | exact P18 | exact P19 | exact P20 | exact P21 | exact P22 | exact P23)) | (apply Part.flat; simp only [List.cons_append, List.nil_append]) | (apply Part.cons; (first | exact P0 | exact P1 | exact P2 | exact P3 | exact P4 | exact P5 | exact P6 | exact P7 | exact P8 | exact P9 | exact P10 | exact P11 | exact P12 | exact P13 | exact P14 | exact P15 | exact P16 | exact P17 | exact P18 | exact P19 | exact P20 | exact P21 | exact P22 | exact P23)) | (apply Part.nilc)))⟩
theorem cp_declare (x : CX) {k : Nat} {name : List UInt8} {s s' : CS} {i : Int} (hP : declareM k name s = some (i, s')) (seg : Seg) (hC : isC x s seg) : Spec Tryz.prog 199 [fp x.fb k, S name] [seg] (Ret (cOkI x i s')) := by
  unfold declareM at hP
  obtain ⟨f, hf, hP⟩ := bnd1 hP
  obtain ⟨la, lc, ua, uc, ka, kc, oa, oc, qa, qc, bn, bs, ls, us, ks, sn, ss, os, qs, ql, c0, c2, lcs, s0, s2, rfl, hpre, hlo, hup, hco, hcd, hlp, hlr, hM1, hM2, hput⟩ := hC.opn hf
  refine Spec_openAt [x.head s.np, blk x.fb 96 (c0 ++ [pt x.cb, parV x.fb f.parent, I f.nparams, .slice la f.locals.length lc, I f.nslots, .slice ua f.ups.length uc, .slice ka f.consts.length kc, .map (some bn), .map (some bs), .slice oa f.code.length oc, .slice qa f.loops.length qc] ++ c2), s0, ls, us, ks, sn, ss, os, qs, ql, s2, x.nodes] (by first | exact P0 | exact P1 | exact P2 | exact P3 | exact P4 | exact P5 | exact P6 | exact P7 | exact P8 | exact P9 | exact P10 | exact P11 | exact P12 | exact P13 | exact P14 | exact P15 | exact P16 | exact P17 | exact P18 | exact P19 | exact P20 | exact P21 | exact P22 | exact P23) ?_
  simp only [List.cons_append, List.nil_append]
  have hlen : f.locals.length < 1000000 := Decidable.byContradiction fun q => by rw [if_neg q] at hP; cases hP
  rw [if_pos hlen] at hP
  injection hP with hP
  injection hP with h1 h2
  subst h1
  subst h2
  refine Spec_enter Tryz.func199 rfl Tryz.ntmps199 rfl ?_
  show SP _ _ _ _ _ [(0, _), (1, _)] _
  refine SP_seq ?_
  refine SP_region ?_
  refine SPL_y (y_assign rfl) rfl ?_
  refine SPL_nil ?_
  refine thenP_n ?_
  refine SP_seq ?_
  refine SP_region ?_
  refine SPL_y (y_move rfl) rfl ?_
  refine SPL_y (y_move rfl) rfl ?_
  refine SPL_y (y_nil rfl) rfl ?_
  refine SPL_y (y_fa fld_96_3 rfl) rfl ?_
  refine SPL_y (y_load Tryz.isAgg88 rfl (by repeat (first | exact Cell.amid hpre rfl | exact Cell.head rfl | apply Cell.tail))) rfl ?_
  refine SPL_y (y_move rfl) rfl ?_
  refine SPL_one rfl (SP1_slice1 el_88 rfl rfl rfl rfl rfl ?_)
  intro b11
  refine SPL_one rfl (SP1_append el_88 (.inl Tryz.underlying88) rfl rfl hlo (by first | exact P0 | exact P1 | exact P2 | exact P3 | exact P4 | exact P5 | exact P6 | exact P7 | exact P8 | exact P9 | exact P10 | exact P11 | exact P12 | exact P13 | exact P14 | exact P15 | exact P16 | exact P17 | exact P18 | exact P19 | exact P20 | exact P21 | exact P22 | exact P23) (Src.of (by repeat (first | exact Cells.all _ | exact Cells.amid hpre rfl (by decide) | exact Cells.head rfl | apply Cells.tail)) (by rfl)) (by rfl) (by omega) rfl ?_)
  intro la1 lc1 ls1 hA1
  refine SPL_y (y_nil rfl) rfl ?_
  refine SPL_y (y_fa fld_96_3 rfl) rfl ?_
  refine SPL_one rfl (SP1_storeM (j := 3) Tryz.sizeOf88 rfl rfl rfl hpre (by first | exact U0 | exact U1 | exact U2 | exact U3 | exact U4 | exact U5 | exact U6 | exact U7 | exact U8 | exact U9 | exact U10 | exact U11 | exact U12 | exact U13 | exact U14 | exact U15 | exact U16 | exact U17 | exact U18 | exact U19 | exact U20 | exact U21 | exact U22 | exact U23) (by rfl) ?_)
  simp only [List.set_cons_zero, List.set_cons_succ, List.take_succ_cons, List.take_zero, List.drop_succ_cons, List.drop_zero, List.cons_append, List.nil_append]
  rw [show f.locals.length + 1 = (f.locals ++ [name]).length from by simp] at hA1 ⊢
  rw [show f.locals.map S ++ [S name] = (f.locals ++ [name]).map S from by simp] at hA1
  refine SPL_nil ?_
  refine thenP_n ?_
  refine SP_seq ?_
  refine SP_draw 13 [(0, 0), (1, 0), (2, 0), (3, 0), (5, 0), (6, 0), (7, 0), (4, 1), (8, 1), (9, 0), (10, 0), (11, 0), (12, 0), (13, 3)] mixed (by kernel_rfl) (fun _ _ _ _ _ h => h) (Part.refl _) ?_
  refine SPO_p rfl (y_move rfl) rfl ?_
  refine SPO_p rfl (y_move rfl) rfl ?_
  refine SPO_p rfl (y_nil rfl) rfl ?_
  refine SPO_p rfl (y_fa fld_96_4 rfl) rfl ?_
  refine SPO_p rfl (y_move rfl) rfl ?_
  refine SPO_p rfl (y_nil rfl) rfl ?_
  refine SPO_p rfl (y_fa fld_96_3 rfl) rfl ?_
  refine SPO_h rfl (y_load Tryz.isAgg3 rfl (by repeat (first | exact Cell.amid hpre rfl | exact Cell.head rfl | apply Cell.tail))) rfl ?_
  refine SPO_h rfl (y_load Tryz.isAgg88 rfl (by repeat (first | exact Cell.amid hpre rfl | exact Cell.head rfl | apply Cell.tail))) rfl ?_
  refine SPO_p rfl (y_len_l Tryz.underlying88 rfl) rfl ?_
  refine SPO_p rfl (y_maxE rfl rfl (show (if f.nslots < (((f.locals ++ [name]).length : Nat) : Int) then (((f.locals ++ [name]).length : Nat) : Int) else f.nslots) = max f.nslots ((f.locals.length : Int) + 1) from by simp only [List.length_append, List.length_cons, List.length_nil]; split <;> omega)) rfl ?_
  refine SPO_p rfl (y_nil rfl) rfl ?_
  refine SPO_p rfl (y_fa fld_96_4 rfl) rfl ?_
  refine SPO_z (k := 0) rfl rfl (SP1_storeM (j := 4) Tryz.sizeOf3 rfl rfl rfl hpre (by first | exact U0 | exact U1 | exact U2 | exact U3 | exact U4 | exact U5 | exact U6 | exact U7 | exact U8 | exact U9 | exact U10 | exact U11 | exact U12 | exact U13 | exact U14 | exact U15 | exact U16 | exact U17 | exact U18 | exact U19 | exact U20 | exact U21 | exact U22 | exact U23) (by rfl) ?_)
  simp only [List.set_cons_zero, List.set_cons_succ, List.take_succ_cons, List.take_zero, List.drop_succ_cons, List.drop_zero, List.cons_append, List.nil_append]
  refine SPO_nil ?_
  refine thenP_n ?_
  refine SP_seq ?_
  refine SP_region ?_
  refine SPL_y (y_move rfl) rfl ?_
  refine SPL_y (y_nil rfl) rfl ?_
  refine SPL_y (y_fa fld_96_3 rfl) rfl ?_
  refine SPL_y (y_load Tryz.isAgg88 rfl (by repeat (first | exact Cell.amid hpre rfl | exact Cell.head rfl | apply Cell.tail))) rfl ?_
  refine SPL_y (y_len_l Tryz.underlying88 rfl) rfl ?_
  refine SPL_y (y_sub rfl rfl (by simp only [List.length_append, List.length_cons, List.length_nil]; omega)) rfl ?_
  refine SPL_y (y_assign rfl) rfl ?_
  refine SPL_nil ?_
  refine thenP_n ?_
  refine SP_ret ?_
  refine bodyP_ret (H' := [List.flatten [x.head s.np, blk x.fb 96 (c0 ++ [pt x.cb, parV x.fb f.parent, I f.nparams, .slice la1 (f.locals ++ [name]).length lc1, I (max f.nslots ((f.locals.length : Int) + 1)), .slice ua f.ups.length uc, .slice ka f.consts.length kc, .map (some bn), .map (some bs), .slice oa f.code.length oc, .slice qa f.loops.length qc] ++ c2), s0, ls1, us, ks, sn, ss, os, qs, ql, s2, x.nodes]]) (Res1 rfl rfl) (by repeat (first | exact Part.nil _ | (apply Part.cons; with_reducible (first | exact P0 | exact P1 | exact P2 | exact P3 | exact P4 | exact P5 | exact P6 | exact P7 | exact P8 | exact P9 | exact P10 | exact P11 | exact P12 | exact P13 | exact P14 | exact P15 | exact P16 | exact P17 | exact P18 | exact P19 | exact P20 | exact P21 | exact P22 | exact P23)) | (apply Part.flat; simp only [List.cons_append, List.nil_append]) | (apply Part.cons; (first | exact P0 | exact P1 | exact P2 | exact P3 | exact P4 | exact P5 | exact P6 | exact P7 | exact P8 | exact P9 | exact P10 | exact P11 | exact P12 | exact P13 | exact P14 | exact P15 | exact P16 | exact P17 | exact P18 | exact P19 | exact P20 | exact P21 | exact P22 | exact P23)) | (apply Part.nilc))) ?_
  exact ⟨by simp, _, hput { f with locals := f.locals ++ [name], nslots := max f.nslots ((f.locals.length : Int) + 1) } la1 lc1 ua uc ka kc oa oc qa qc bn bs ls1 us ks sn ss os qs ql lcs rfl hA1 hup hco hcd hlp hlr hM1 hM2, rfl⟩

end Go.Sl
