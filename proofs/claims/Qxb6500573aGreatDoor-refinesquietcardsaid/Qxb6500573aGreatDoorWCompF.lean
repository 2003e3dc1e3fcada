/- Walks: package comp, the ends of loops (made by program out of short notes) -/
import Derived.Test.Qxb6500573aGreatDoorWCompE
namespace Go.Sl
open Go Go.Wl Go.Proofs
set_option maxRecDepth 100000
set_option linter.unusedVariables false
set_option linter.unusedSimpArgs false
theorem Rws.one_ {α : Type} {one : α → List Value → Seg → Prop} {x : α} {c : List Value} {s : Seg} (h : Rws one [x] c s) : one x c s := by
  obtain ⟨c1, s1, c2, s2, rfl, rfl, h1, rfl, rfl⟩ := h
  simpa using h1
theorem last_split {α : Type} {l : List α} {x : α} (h : l[l.length - 1]? = some x) : 0 < l.length ∧ l = l.take (l.length - 1) ++ [x] := by
  obtain ⟨h1, h2⟩ := List.getElem?_eq_some_iff.1 h
  refine ⟨by omega, ?_⟩
  have h3 : l.take (l.length - 1 + 1) = l.take (l.length - 1) ++ [l[l.length - 1]] := List.take_succ_eq_append_getElem h1
  rw [h2, Nat.sub_add_cancel (by omega), List.take_length] at h3
  exact h3
theorem drop_cons {α : Type} {l : List α} {j : Nat} (h : j < l.length) : l.drop j = l[j] :: l.drop (j + 1) := List.drop_eq_getElem_cons h
set_option maxHeartbeats 2000000 in
theorem cp_shut (x : CX) {k : Nat} {s s' : CS} (hP : shutM k s = some s') (seg : Seg) (hC : isC x s seg) : Spec Tryz.prog 256 [fp x.fb k] [seg] (Ret (cOk x s')) := by
  unfold shutM at hP
  obtain ⟨f, hf, hP⟩ := bnd1 hP
  obtain ⟨l, hl, hP⟩ := bnd1 hP
  have hll : l.2.length < 1000000 ∧ f.loops.length < 1000000 := Decidable.byContradiction fun q => by rw [if_neg q] at hP; cases hP
  rw [if_pos hll] at hP
  obtain ⟨la, lc, ua, uc, ka, kc, oa, oc, qa, qc, bn, bs, ls, us, ks, sn, ss, os, qs, ql, c0, c2, lcs, s0, s2, rfl, hpre, hlo, hup, hco, hcd, hlp, hlr, hM1, hM2, hput⟩ := hC.opn hf
  refine Spec_openAt [x.head s.np, blk x.fb 96 (c0 ++ [pt x.cb, parV x.fb f.parent, I f.nparams, .slice la f.locals.length lc, I f.nslots, .slice ua f.ups.length uc, .slice ka f.consts.length kc, .map (some bn), .map (some bs), .slice oa f.code.length oc, .slice qa f.loops.length qc] ++ c2), s0, ls, us, ks, sn, ss, os, qs, ql, s2, x.nodes] (by first | exact P0 | exact P1 | exact P2 | exact P3 | exact P4 | exact P5 | exact P6 | exact P7 | exact P8 | exact P9 | exact P10 | exact P11 | exact P12 | exact P13 | exact P14 | exact P15 | exact P16 | exact P17 | exact P18 | exact P19 | exact P20 | exact P21 | exact P22 | exact P23) ?_
  simp only [List.cons_append, List.nil_append]
  clear hC
  obtain ⟨hne, hsp⟩ := last_split hl
  have hlr0 := hlr
  rw [hsp] at hlr0
  obtain ⟨d1, d2, r1, r2, rfl, rfl, hR1, hR2⟩ := Rws.part hlr0
  obtain ⟨ba, bc, vs, sb, sp, rfl, rfl, hA, hRp⟩ := Rws.one_ hR2
  obtain ⟨qb, qsp, rfl, hqc, hqsp, rfl⟩ := hlp.row hne
  have hd1 : d1.length = 0 + ((f.loops.length : Int) - 1).toNat * 2 := by have := hR1.len (loopR_len x.fb); rw [this]; simp; try omega
  have hA1 := hlp.cut (j := f.loops.length - 1) (by omega)
  rw [show (f.loops.length - 1) * 2 = d1.length from by omega, List.take_left' rfl] at hA1
  generalize hL : f.loops.take (f.loops.length - 1) = L at hP hR1 ⊢
  have hl1 : ((f.loops.length : Int) - 1).toNat = L.length := by rw [← hL]; simp; try omega
  have hl2 : f.loops.length - 1 = L.length := by rw [← hL]; simp
  rw [hl2] at hA1
  have hA2 : Arr 163 2 (some ⟨qb, 0, none⟩) L.length qc d1 (blk qb 163 (d1 ++ [I l.1, .slice ba l.2.length bc] ++ qsp)) := hA1
  have hC1 : isC x (s.put k { f with loops := L }) (List.flatten [x.head s.np, blk x.fb 96 (c0 ++ [pt x.cb, parV x.fb f.parent, I f.nparams, .slice la f.locals.length lc, I f.nslots, .slice ua f.ups.length uc, .slice ka f.consts.length kc, .map (some bn), .map (some bs), .slice oa f.code.length oc, .slice (some ⟨qb, 0, none⟩) L.length qc] ++ c2), s0, ls, us, ks, sn, ss, os, blk qb 163 (d1 ++ [I l.1, .slice ba l.2.length bc] ++ qsp), r1, s2, x.nodes]) := hput { f with loops := L } la lc ua uc ka kc oa oc (some ⟨qb, 0, none⟩) qc bn bs ls us ks sn ss os (blk qb 163 (d1 ++ [I l.1, .slice ba l.2.length bc] ++ qsp)) r1 d1 rfl hlo hup hco hcd hA2 hR1 hM1 hM2
  rw [show r1 ++ List.flatten [sb, sp] = List.flatten [r1, sb, sp] from by simp]
  refine Spec_openAt [r1, sb, sp] (by first | exact P0 | exact P1 | exact P2 | exact P3 | exact P4 | exact P5 | exact P6 | exact P7 | exact P8 | exact P9 | exact P10 | exact P11 | exact P12 | exact P13 | exact P14 | exact P15 | exact P16 | exact P17 | exact P18 | exact P19 | exact P20 | exact P21 | exact P22 | exact P23) ?_
  simp only [List.cons_append, List.nil_append]
  refine Spec_enter Tryz.func256 rfl Tryz.ntmps256 rfl ?_
  show SP _ _ _ _ _ [(0, _)] _
  refine SP_seq ?_
  refine SP_draw 13 [(0, 0), (1, 0), (2, 0), (4, 0), (5, 0), (6, 0), (3, 1), (7, 1), (8, 0), (9, 0), (10, 0), (11, 1), (12, 2), (13, 3)] mixed (by kernel_rfl) (fun _ _ _ _ _ h => h) (Part.refl _) ?_
  refine SPO_p rfl (y_move rfl) rfl ?_
  refine SPO_p rfl (y_nil rfl) rfl ?_
  refine SPO_p rfl (y_fa fld_96_10 rfl) rfl ?_
  refine SPO_p rfl (y_move rfl) rfl ?_
  refine SPO_p rfl (y_nil rfl) rfl ?_
  refine SPO_p rfl (y_fa fld_96_10 rfl) rfl ?_
  refine SPO_h rfl (y_load Tryz.isAgg94 rfl (by repeat (first | exact Cell.amid hpre rfl | exact Cell.head rfl | apply Cell.tail))) rfl ?_
  refine SPO_h rfl (y_load Tryz.isAgg94 rfl (by repeat (first | exact Cell.amid hpre rfl | exact Cell.head rfl | apply Cell.tail))) rfl ?_
  refine SPO_p rfl (y_len_l Tryz.underlying94 rfl) rfl ?_
  refine SPO_p rfl (y_sub rfl rfl (by omega)) rfl ?_
  refine SPO_p rfl (y_ia Tryz.underlying94 Tryz.sizeOf163 rfl rfl (by omega)) rfl ?_
  refine SPO_h rfl (y_loads Tryz.isAgg163 Tryz.sizeOf163 rfl rfl (by repeat (first | exact Cells.amid0 (vs := [I l.1, .slice ba l.2.length bc]) hd1 rfl (Nat.le_refl _) | apply Cells.tail))) rfl ?_
  refine SPO_a rfl rfl (SP1_alloc Tryz.zeroValue163 rfl rfl ?_)
  intro b2
  refine ⟨⟨_, (by repeat (first | exact Part.nil _ | (apply Part.cons; with_reducible (first | exact P0 | exact P1 | exact P2 | exact P3 | exact P4 | exact P5 | exact P6 | exact P7 | exact P8 | exact P9 | exact P10 | exact P11 | exact P12 | exact P13 | exact P14 | exact P15 | exact P16 | exact P17 | exact P18 | exact P19 | exact P20 | exact P21 | exact P22 | exact P23)) | (apply Part.flat; simp only [List.cons_append, List.nil_append]) | (apply Part.cons; (first | exact P0 | exact P1 | exact P2 | exact P3 | exact P4 | exact P5 | exact P6 | exact P7 | exact P8 | exact P9 | exact P10 | exact P11 | exact P12 | exact P13 | exact P14 | exact P15 | exact P16 | exact P17 | exact P18 | exact P19 | exact P20 | exact P21 | exact P22 | exact P23)) | (apply Part.nilc)))⟩, ?_⟩
  refine SPO_z (k := 0) rfl rfl (SP1_storeAll Tryz.sizeOf163 rfl rfl rfl rfl rfl (by first | exact U0 | exact U1 | exact U2 | exact U3 | exact U4 | exact U5 | exact U6 | exact U7 | exact U8 | exact U9 | exact U10 | exact U11 | exact U12 | exact U13 | exact U14 | exact U15 | exact U16 | exact U17 | exact U18 | exact U19 | exact U20 | exact U21 | exact U22 | exact U23) (by rfl) ?_)
  refine SPO_nil ?_
  refine thenP_n ?_
  refine SP_seq ?_
  refine SP_draw 14 [(0, 0), (1, 0), (2, 0), (3, 0), (5, 0), (6, 0), (7, 0), (4, 1), (8, 1), (9, 0), (10, 0), (11, 0), (12, 0), (13, 0), (14, 3)] mixed (by kernel_rfl) (fun _ _ _ _ _ h => h) (Part.refl _) ?_
  refine SPO_p rfl (y_move rfl) rfl ?_
  refine SPO_p rfl (y_move rfl) rfl ?_
  refine SPO_p rfl (y_nil rfl) rfl ?_
  refine SPO_p rfl (y_fa fld_96_10 rfl) rfl ?_
  refine SPO_p rfl (y_move rfl) rfl ?_
  refine SPO_p rfl (y_nil rfl) rfl ?_
  refine SPO_p rfl (y_fa fld_96_10 rfl) rfl ?_
  refine SPO_h rfl (y_load Tryz.isAgg94 rfl (by repeat (first | exact Cell.amid hpre rfl | exact Cell.head rfl | apply Cell.tail))) rfl ?_
  refine SPO_h rfl (y_load Tryz.isAgg94 rfl (by repeat (first | exact Cell.amid hpre rfl | exact Cell.head rfl | apply Cell.tail))) rfl ?_
  refine SPO_p rfl (y_len_l Tryz.underlying94 rfl) rfl ?_
  refine SPO_p rfl (y_sub rfl rfl (by omega)) rfl ?_
  refine SPO_p rfl (y_cut hlp Tryz.underlying94 Tryz.sizeOf163 rfl rfl (by omega)) rfl ?_
  refine SPO_p rfl (y_nil rfl) rfl ?_
  refine SPO_p rfl (y_fa fld_96_10 rfl) rfl ?_
  refine SPO_z (k := 0) rfl rfl (SP1_storeM (j := 10) Tryz.sizeOf94 rfl rfl rfl hpre (by first | exact U0 | exact U1 | exact U2 | exact U3 | exact U4 | exact U5 | exact U6 | exact U7 | exact U8 | exact U9 | exact U10 | exact U11 | exact U12 | exact U13 | exact U14 | exact U15 | exact U16 | exact U17 | exact U18 | exact U19 | exact U20 | exact U21 | exact U22 | exact U23) (by rfl) ?_)
  simp only [List.set_cons_zero, List.set_cons_succ, List.take_succ_cons, List.take_zero, List.drop_succ_cons, List.drop_zero, List.cons_append, List.nil_append]
  rw [hl1]
  refine SPO_nil ?_
  refine thenP_n ?_
  refine SP_seq ?_
  refine SP_region ?_
  refine SPL_y (y_fa fld_163_1 rfl) rfl ?_
  refine SPL_y (y_load Tryz.isAgg161 rfl (by repeat (first | exact Cell.amid hpre rfl | exact Cell.head rfl | apply Cell.tail))) rfl ?_
  refine SPL_y (y_len_l Tryz.underlying161 rfl) rfl ?_
  refine SPL_y (y_move rfl) rfl ?_
  refine SPL_nil ?_
  refine thenP_n ?_
  refine SP_block ?_
  refine SP_loop (G := Nat × CS × Seg × Seg × List Value × List Value) (fun g => l.2.length - g.1) (fun g => [(32, .slice ba l.2.length bc), (33, I l.2.length), (34, I g.1)]) (fun g => [g.2.2.1, sb, g.2.2.2.1]) (fun g => isC x g.2.1 g.2.2.1 ∧ patchesM (l.2.drop g.1) g.2.1 = some s' ∧ vs = g.2.2.2.2.1 ++ g.2.2.2.2.2 ∧ g.2.2.2.2.1.length = g.1 ∧ Rws (patR x.fb) (l.2.drop g.1) g.2.2.2.2.2 g.2.2.2.1 ∧ g.1 ≤ l.2.length) ((0, s.put k { f with loops := L }, List.flatten [x.head s.np, blk x.fb 96 (c0 ++ [pt x.cb, parV x.fb f.parent, I f.nparams, .slice la f.locals.length lc, I f.nslots, .slice ua f.ups.length uc, .slice ka f.consts.length kc, .map (some bn), .map (some bs), .slice oa f.code.length oc, .slice (some ⟨qb, 0, none⟩) L.length qc] ++ c2), s0, ls, us, ks, sn, ss, os, blk qb 163 (d1 ++ [I l.1, .slice ba l.2.length bc] ++ qsp), r1, s2, x.nodes], sp, [], vs)) (⟨hC1, hP, rfl, rfl, hRp, Nat.zero_le _⟩) (by repeat (first | exact Sub.nil _ | refine Sub.cons rfl ?_)) (by repeat (first | exact Part.nil _ | (apply Part.cons; with_reducible (first | exact P0 | exact P1 | exact P2 | exact P3 | exact P4 | exact P5 | exact P6 | exact P7 | exact P8 | exact P9 | exact P10 | exact P11 | exact P12 | exact P13 | exact P14 | exact P15 | exact P16 | exact P17 | exact P18 | exact P19 | exact P20 | exact P21 | exact P22 | exact P23)) | (apply Part.flat; simp only [List.cons_append, List.nil_append]) | (apply Part.cons; (first | exact P0 | exact P1 | exact P2 | exact P3 | exact P4 | exact P5 | exact P6 | exact P7 | exact P8 | exact P9 | exact P10 | exact P11 | exact P12 | exact P13 | exact P14 | exact P15 | exact P16 | exact P17 | exact P18 | exact P19 | exact P20 | exact P21 | exact P22 | exact P23)) | (apply Part.nilc))) ?_
  rintro ⟨j, s1, sg1, sp1, pre, rest⟩ ⟨hC, hP, hvs, hpl, hRp, hjl⟩
  dsimp only at hC hP hvs hpl hRp hjl ⊢
  refine SP_seq ?_
  refine SP_region ?_
  refine SPL_ifn (y_lss rfl rfl) rfl ?_ ?_
  · intro h3_0
    refine SPL_nil ?_
    refine thenP_n ?_
    refine SP_seq ?_
    refine SP_cond_f rfl ?_
    refine SP_exit ?_
    refine thenP_exit ?_
    refine thenP_exit ?_
    refine inBlockP_hit ?_
    refine bodyP_end (H' := [sg1]) (Res0 rfl) (by repeat (first | exact Part.nil _ | (apply Part.cons; with_reducible (first | exact P0 | exact P1 | exact P2 | exact P3 | exact P4 | exact P5 | exact P6 | exact P7 | exact P8 | exact P9 | exact P10 | exact P11 | exact P12 | exact P13 | exact P14 | exact P15 | exact P16 | exact P17 | exact P18 | exact P19 | exact P20 | exact P21 | exact P22 | exact P23)) | (apply Part.flat; simp only [List.cons_append, List.nil_append]) | (apply Part.cons; (first | exact P0 | exact P1 | exact P2 | exact P3 | exact P4 | exact P5 | exact P6 | exact P7 | exact P8 | exact P9 | exact P10 | exact P11 | exact P12 | exact P13 | exact P14 | exact P15 | exact P16 | exact P17 | exact P18 | exact P19 | exact P20 | exact P21 | exact P22 | exact P23)) | (apply Part.nilc))) ?_
    obtain rfl : j = l.2.length := by omega
    rw [List.drop_length, patchesM] at hP
    injection hP with hP
    subst hP
    exact ⟨rfl, _, hC, rfl⟩
  intro h3_0
  refine SPL_nil ?_
  refine thenP_n ?_
  refine SP_seq ?_
  refine SP_cond_t rfl ?_
  refine SP_skip ?_
  refine thenP_n ?_
  refine SP_seq ?_
  refine SP_block ?_
  refine SP_seq ?_
  have hj : j < l.2.length := by omega
  obtain ⟨bb, bsp, rfl, hbc, hbsp, rfl⟩ := hA.row (by omega)
  rw [drop_cons hj] at hP hRp
  obtain ⟨c1, t1, u2, t2, rfl, rfl, h1, hRp2⟩ := hRp
  obtain ⟨b2, b5, rfl, rfl⟩ := h1
  subst hvs
  obtain ⟨sn, hq5, hP⟩ := bnd1 hP
  rw [show List.flatten [blk b2 87 [fp x.fb (l.2[j]).1], blk b5 3 [I (l.2[j]).2]] ++ t2 = List.flatten [blk b2 87 [fp x.fb (l.2[j]).1], blk b5 3 [I (l.2[j]).2], t2] from by simp]
  refine SP_openAt [blk b2 87 [fp x.fb (l.2[j]).1], blk b5 3 [I (l.2[j]).2], t2] (by first | exact P0 | exact P1 | exact P2 | exact P3 | exact P4 | exact P5 | exact P6 | exact P7 | exact P8 | exact P9 | exact P10 | exact P11 | exact P12 | exact P13 | exact P14 | exact P15 | exact P16 | exact P17 | exact P18 | exact P19 | exact P20 | exact P21 | exact P22 | exact P23) ?_
  simp only [List.cons_append, List.nil_append]
  refine SP_region ?_
  refine SPL_y (y_ia Tryz.underlying161 Tryz.sizeOf1 rfl rfl (by omega)) rfl ?_
  refine SPL_y (y_load Tryz.isAgg1 rfl (by repeat (first | exact (Cell.head (by rw [show 0 + ((j : Nat) : Int).toNat * 1 = pre.length from by rw [hpl]; simp, List.append_assoc, List.getElem?_append_right (Nat.le_refl _), Nat.sub_self]; rfl)) | apply Cell.tail))) rfl ?_
  refine SPL_y (y_assign rfl) rfl ?_
  refine SPL_nil ?_
  refine thenP_n ?_
  refine SP_region ?_
  refine SPL_y (y_move rfl) rfl ?_
  refine SPL_one rfl (SP1_callv (f := 257) (first := []) (cap := [pt b2, pt b5]) (args := []) rfl (cp_patch x hq5 b2 b5 _ hC) Tryz.call257 rfl rfl (by repeat (first | exact Part.nil _ | (apply Part.cons; with_reducible (first | exact P0 | exact P1 | exact P2 | exact P3 | exact P4 | exact P5 | exact P6 | exact P7 | exact P8 | exact P9 | exact P10 | exact P11 | exact P12 | exact P13 | exact P14 | exact P15 | exact P16 | exact P17 | exact P18 | exact P19 | exact P20 | exact P21 | exact P22 | exact P23)) | (apply Part.flat; simp only [List.cons_append, List.nil_append]) | (apply Part.cons; (first | exact P0 | exact P1 | exact P2 | exact P3 | exact P4 | exact P5 | exact P6 | exact P7 | exact P8 | exact P9 | exact P10 | exact P11 | exact P12 | exact P13 | exact P14 | exact P15 | exact P16 | exact P17 | exact P18 | exact P19 | exact P20 | exact P21 | exact P22 | exact P23)) | (apply Part.nilc))) ?_)
  rintro v post H' ⟨rfl, sg5, hC, rfl⟩ hH
  try simp only [List.cons_append, List.nil_append] at hH
  subst hH
  refine SPL_nil ?_
  refine inBlockP_n ?_
  refine thenP_n ?_
  refine SP_region ?_
  refine SPL_y (y_add rfl rfl (by omega)) rfl ?_
  refine SPL_y (y_move rfl) rfl ?_
  refine SPL_nil ?_
  refine thenP_n ?_
  exact Again.intro ((j + 1, sn, sg5, t2, pre ++ [patV b2 b5], u2)) (⟨hC, hP, by simp, by simp [hpl], hRp2, by dsimp only; omega⟩) (by dsimp only; omega) (by repeat (first | exact Sub.nil _ | refine Sub.cons rfl ?_)) (by repeat (first | exact Part.nil _ | (apply Part.cons; with_reducible (first | exact P0 | exact P1 | exact P2 | exact P3 | exact P4 | exact P5 | exact P6 | exact P7 | exact P8 | exact P9 | exact P10 | exact P11 | exact P12 | exact P13 | exact P14 | exact P15 | exact P16 | exact P17 | exact P18 | exact P19 | exact P20 | exact P21 | exact P22 | exact P23)) | (apply Part.flat; simp only [List.cons_append, List.nil_append]) | (apply Part.cons; (first | exact P0 | exact P1 | exact P2 | exact P3 | exact P4 | exact P5 | exact P6 | exact P7 | exact P8 | exact P9 | exact P10 | exact P11 | exact P12 | exact P13 | exact P14 | exact P15 | exact P16 | exact P17 | exact P18 | exact P19 | exact P20 | exact P21 | exact P22 | exact P23)) | (apply Part.nilc)))

end Go.Sl
