/- Walks: package vm, the fuel, jumps, kinds (made by program out of short notes) -/
import Derived.Test.Qxb6500573aGreatDoorWVmA
namespace Go.Sl
open Go Go.Wl Go.Proofs
set_option maxRecDepth 100000
set_option linter.unusedVariables false
set_option linter.unusedSimpArgs false
theorem vm_burn (b : VB) (ph : PH) (hh : List TH) {m : VM} {o : Out Unit} (hP : burnM m = some o) (seg : Seg) (hM : isVM b ph hh m seg) : Spec Tryz.prog 280 [pt b.vb] [seg] (outR b ph hh u0 o) := by
  unfold burnM at hP
  refine Spec_enter Tryz.func280 rfl Tryz.ntmps280 rfl ?_
  show SP _ _ _ _ _ [(0, _)] _
  refine SP_seq ?_
  refine SP_seq ?_
  refine SP_region ?_
  refine SPL_y (y_move rfl) rfl ?_
  refine SPL_y (y_nil rfl) rfl ?_
  refine SPL_y (y_fa fld_115_10 rfl) rfl ?_
  refine SPL_y (y_load Tryz.isAgg3 rfl (by repeat (first | exact hM.fuel | apply Cell.tail))) rfl ?_
  refine SPL_if (y_eql rfl rfl) rfl ?_ ?_
  · intro h0_4
    first | rw [if_pos h0_4] at hP | rw [if_neg h0_4] at hP | skip
    refine SPL_nil ?_
    refine thenP_n ?_
    refine SP_cond_t rfl ?_
    refine SP_region ?_
    refine SPL_one rfl (SP1_callp (vm_stop 9) Tryz.call260 rfl rfl (by repeat (first | exact Part.nil _ | (apply Part.cons; with_reducible (first | exact P0 | exact P1 | exact P2 | exact P3 | exact P4 | exact P5 | exact P6 | exact P7 | exact P8 | exact P9 | exact P10 | exact P11 | exact P12 | exact P13 | exact P14 | exact P15 | exact P16 | exact P17 | exact P18 | exact P19 | exact P20 | exact P21 | exact P22 | exact P23)) | (apply Part.flat; simp only [List.cons_append, List.nil_append]) | (apply Part.cons; (first | exact P0 | exact P1 | exact P2 | exact P3 | exact P4 | exact P5 | exact P6 | exact P7 | exact P8 | exact P9 | exact P10 | exact P11 | exact P12 | exact P13 | exact P14 | exact P15 | exact P16 | exact P17 | exact P18 | exact P19 | exact P20 | exact P21 | exact P22 | exact P23)) | (apply Part.nilc))) ?_ ?_)
    · rintro c post H' ⟨rfl, rfl⟩ hH
      try simp only [List.cons_append, List.nil_append] at hH
      subst hH
      refine thenP_panic (bodyP_panic (H' := [seg, []]) (by repeat (first | exact Part.nil _ | (apply Part.cons; with_reducible (first | exact P0 | exact P1 | exact P2 | exact P3 | exact P4 | exact P5 | exact P6 | exact P7 | exact P8 | exact P9 | exact P10 | exact P11 | exact P12 | exact P13 | exact P14 | exact P15 | exact P16 | exact P17 | exact P18 | exact P19 | exact P20 | exact P21 | exact P22 | exact P23)) | (apply Part.flat; simp only [List.cons_append, List.nil_append]) | (apply Part.cons; (first | exact P0 | exact P1 | exact P2 | exact P3 | exact P4 | exact P5 | exact P6 | exact P7 | exact P8 | exact P9 | exact P10 | exact P11 | exact P12 | exact P13 | exact P14 | exact P15 | exact P16 | exact P17 | exact P18 | exact P19 | exact P20 | exact P21 | exact P22 | exact P23)) | (apply Part.nilc))) ?_)
      injection hP with hP
      subst hP
      exact ⟨.trp 9 m, hh, seg, rfl, rfl, KF.refl _, hM, rfl⟩
    rintro v post H' hF hH
    exact hF.elim
  intro h0_4
  first | rw [if_neg h0_4] at hP | rw [if_pos (Decidable.not_not.1 h0_4)] at hP | skip
  refine SPL_nil ?_
  refine thenP_n ?_
  refine SP_cond_f rfl ?_
  refine SP_skip ?_
  refine thenP_n ?_
  have hfu : 0 ≤ m.vs.fuel ∧ m.vs.fuel ≤ 9223372036854775807 := Decidable.byContradiction fun q => by rw [if_neg q] at hP; cases hP
  rw [if_pos hfu] at hP
  injection hP with hP
  subst hP
  obtain ⟨la, ua, ea, xa, lc, uc, ec, xc, r, rfl, hput⟩ := hM.opnF
  refine SP_openAt [blk b.vb 115 [pt b.nb, pt b.tb, .slice ph.pa m.pg.protos.length ph.pc, .slice ph.da m.pg.descs.length ph.dc, .slice ph.ka m.pg.consts.length ph.kc, .slice ph.ca m.pg.code.length ph.cc, .slice la m.vs.clos.length lc, .slice ua m.vs.upix.length uc, .slice ea m.vs.cells.length ec, .slice (some ⟨b.thb, 0, none⟩) m.vs.threads.length 5, I m.vs.fuel, .slice xa m.vs.out.length xc, I m.ended], r] (by first | exact P0 | exact P1 | exact P2 | exact P3 | exact P4 | exact P5 | exact P6 | exact P7 | exact P8 | exact P9 | exact P10 | exact P11 | exact P12 | exact P13 | exact P14 | exact P15 | exact P16 | exact P17 | exact P18 | exact P19 | exact P20 | exact P21 | exact P22 | exact P23) ?_
  simp only [List.cons_append, List.nil_append]
  refine SP_region ?_
  refine SPL_y (y_move rfl) rfl ?_
  refine SPL_y (y_nil rfl) rfl ?_
  refine SPL_y (y_fa fld_115_10 rfl) rfl ?_
  refine SPL_y (y_load Tryz.isAgg3 rfl (by repeat (first | exact Cell.amid hpre rfl | exact Cell.head rfl | apply Cell.tail))) rfl ?_
  refine SPL_y (y_sub rfl rfl (by omega)) rfl ?_
  refine SPL_y (y_nil rfl) rfl ?_
  refine SPL_y (y_fa fld_115_10 rfl) rfl ?_
  refine SPL_one rfl (SP1_store Tryz.sizeOf3 rfl rfl rfl (by first | exact U0 | exact U1 | exact U2 | exact U3 | exact U4 | exact U5 | exact U6 | exact U7 | exact U8 | exact U9 | exact U10 | exact U11 | exact U12 | exact U13 | exact U14 | exact U15 | exact U16 | exact U17 | exact U18 | exact U19 | exact U20 | exact U21 | exact U22 | exact U23) (by rfl) ?_)
  refine SPL_nil ?_
  refine bodyP_end (H' := [List.flatten [blk b.vb 115 [pt b.nb, pt b.tb, .slice ph.pa m.pg.protos.length ph.pc, .slice ph.da m.pg.descs.length ph.dc, .slice ph.ka m.pg.consts.length ph.kc, .slice ph.ca m.pg.code.length ph.cc, .slice la m.vs.clos.length lc, .slice ua m.vs.upix.length uc, .slice ea m.vs.cells.length ec, .slice (some ⟨b.thb, 0, none⟩) m.vs.threads.length 5, I (m.vs.fuel - 1), .slice xa m.vs.out.length xc, I m.ended], r]]) (Res0 rfl) (by repeat (first | exact Part.nil _ | (apply Part.cons; with_reducible (first | exact P0 | exact P1 | exact P2 | exact P3 | exact P4 | exact P5 | exact P6 | exact P7 | exact P8 | exact P9 | exact P10 | exact P11 | exact P12 | exact P13 | exact P14 | exact P15 | exact P16 | exact P17 | exact P18 | exact P19 | exact P20 | exact P21 | exact P22 | exact P23)) | (apply Part.flat; simp only [List.cons_append, List.nil_append]) | (apply Part.cons; (first | exact P0 | exact P1 | exact P2 | exact P3 | exact P4 | exact P5 | exact P6 | exact P7 | exact P8 | exact P9 | exact P10 | exact P11 | exact P12 | exact P13 | exact P14 | exact P15 | exact P16 | exact P17 | exact P18 | exact P19 | exact P20 | exact P21 | exact P22 | exact P23)) | (apply Part.nilc))) ?_
  exact ⟨(), _, rfl, rfl, hh, _, KF.refl hh, hput (m.vs.fuel - 1), rfl⟩

theorem vm_jump (b : VB) (ph : PH) (hh : List TH) {m : VM} {th i : Nat} {fv : Value} (hfv : FP hh th i fv) {x : Int} {o : Out Unit} (hP : jumpV th i x m = some o) (seg : Seg) (hM : isVM b ph hh m seg) : Spec Tryz.prog 263 [pt b.vb, fv, I x] [seg] (outR b ph hh u0 o) := by
  have hk : KF hh hh := KF.refl hh
  unfold jumpV at hP
  obtain ⟨f, hf, hP⟩ := bnd1 hP
  have hfv0 := hfv
  obtain ⟨g, q, hg, hq, rfl⟩ := hfv
  refine Spec_enter Tryz.func263 rfl Tryz.ntmps263 rfl ?_
  show SP _ _ _ _ _ [(0, _), (1, _), (2, _)] _
  refine SP_seq ?_
  refine SP_seq ?_
  refine SP_region ?_
  refine SPL_y (y_move rfl) rfl ?_
  refine SPL_y (y_move rfl) rfl ?_
  refine SPL_y (y_nil rfl) rfl ?_
  refine SPL_y (y_fa fld_331_1 rfl) rfl ?_
  refine SPL_y (y_load Tryz.isAgg3 rfl (by repeat (first | exact (hM.frF hf hg hq rfl) | apply Cell.tail))) rfl ?_
  refine SPL_ifn (y_leq rfl rfl) rfl ?_ ?_
  · intro h0_5
    first | rw [if_neg h0_5] at hP | rw [if_pos (Decidable.not_not.1 h0_5)] at hP | skip
    refine SPL_nil ?_
    refine thenP_n ?_
    refine SP_cond_f rfl ?_
    refine SP_skip ?_
    refine thenP_n ?_
    obtain ⟨mp, hpc, hP⟩ := bnd1 hP
    unfold pcM at hpc
    obtain ⟨f2, hf2, hpc⟩ := bnd1 hpc
    unfold setF getT at hpc
    obtain ⟨t, ht, hpc⟩ := bnd1 hpc
    have hil : i < t.frames.length := Decidable.byContradiction fun q => by rw [if_neg q] at hpc; cases hpc
    rw [if_pos hil] at hpc
    injection hpc with hpc
    subst hpc
    have hfe : t.frames[i] = f2 := by
      obtain ⟨t', ht', hi', he'⟩ := getF_some hf2
      rw [ht] at ht'
      injection ht' with ht'
      subst ht'
      exact he'
    obtain ⟨na, nc, r, ss, sf, sn, s0, s2, c0, c2, rfl, hpre, hss, hsf, hsn, hput⟩ := hM.opnT ht hg
    obtain ⟨q', fsp, hq', hfc, hfsp, rfl⟩ := hsf.row (by omega)
    rw [hq] at hq'
    injection hq' with hq'
    injection hq' with hq'
    subst hq'
    refine SP_openAt [r, blk b.thb 263 (c0 ++ [I t.st, I t.fn, .slice g.sa t.stack.length g.sc, .slice g.fa t.frames.length g.fc, .slice na t.opn.length nc] ++ c2), s0, ss, blk q 331 (t.frames.flatMap frV ++ fsp), sn, s2] (by first | exact P0 | exact P1 | exact P2 | exact P3 | exact P4 | exact P5 | exact P6 | exact P7 | exact P8 | exact P9 | exact P10 | exact P11 | exact P12 | exact P13 | exact P14 | exact P15 | exact P16 | exact P17 | exact P18 | exact P19 | exact P20 | exact P21 | exact P22 | exact P23) ?_
    simp only [List.cons_append, List.nil_append]
    refine SP_region ?_
    refine SPL_y (y_move rfl) rfl ?_
    refine SPL_y (y_move rfl) rfl ?_
    refine SPL_y (y_nil rfl) rfl ?_
    refine SPL_y (y_fa fld_331_1 rfl) rfl ?_
    refine SPL_one rfl (SP1_storeF (x := { f2 with pc := x }) (j := (i : Int)) frV_len Tryz.sizeOf3 rfl rfl rfl rfl hil (by decide) (by rw [hfe]; rfl) (by first | exact U0 | exact U1 | exact U2 | exact U3 | exact U4 | exact U5 | exact U6 | exact U7 | exact U8 | exact U9 | exact U10 | exact U11 | exact U12 | exact U13 | exact U14 | exact U15 | exact U16 | exact U17 | exact U18 | exact U19 | exact U20 | exact U21 | exact U22 | exact U23) ?_)
    refine SPL_nil ?_
    refine bodyP_end (H' := [List.flatten [r, blk b.thb 263 (c0 ++ [I t.st, I t.fn, .slice g.sa t.stack.length g.sc, .slice g.fa t.frames.length g.fc, .slice na t.opn.length nc] ++ c2), s0, ss, (blk q 331 ((t.frames.set i { f2 with pc := x }).flatMap frV ++ fsp)), sn, s2]]) (Res0 rfl) (by repeat (first | exact Part.nil _ | (apply Part.cons; with_reducible (first | exact P0 | exact P1 | exact P2 | exact P3 | exact P4 | exact P5 | exact P6 | exact P7 | exact P8 | exact P9 | exact P10 | exact P11 | exact P12 | exact P13 | exact P14 | exact P15 | exact P16 | exact P17 | exact P18 | exact P19 | exact P20 | exact P21 | exact P22 | exact P23)) | (apply Part.flat; simp only [List.cons_append, List.nil_append]) | (apply Part.cons; (first | exact P0 | exact P1 | exact P2 | exact P3 | exact P4 | exact P5 | exact P6 | exact P7 | exact P8 | exact P9 | exact P10 | exact P11 | exact P12 | exact P13 | exact P14 | exact P15 | exact P16 | exact P17 | exact P18 | exact P19 | exact P20 | exact P21 | exact P22 | exact P23)) | (apply Part.nilc))) ?_
    injection hP with hP
    subst hP
    have hA1 : Arr 331 5 g.fa (t.frames.set i { f2 with pc := x }).length g.fc ((t.frames.set i { f2 with pc := x }).flatMap frV) (blk q 331 ((t.frames.set i { f2 with pc := x }).flatMap frV ++ fsp)) := by
      rw [hq]; exact Arr.mk (by rw [flat_len frV_len]) (by simpa using hfc) (by simpa using hfsp)
    have hM2 := hput { t with frames := t.frames.set i { f2 with pc := x } } g na nc ss _ sn hss hA1 hsn
    rw [set_same hg] at hM2
    dsimp only at hM2
    rw [List.length_set] at hM2
    exact ⟨(), _, rfl, rfl, _, _, hk, hM2, rfl⟩
  intro h0_5
  first | rw [if_pos h0_5] at hP | rw [if_neg h0_5] at hP | skip
  refine SPL_nil ?_
  refine thenP_n ?_
  refine SP_cond_t rfl ?_
  refine SP_region ?_
  refine SPL_y (y_move rfl) rfl ?_
  obtain ⟨o1, hq1, hP⟩ := bndO hP
  refine SPL_one rfl (SP1_callp (vm_burn b ph hh hq1 _ hM) Tryz.call280 rfl rfl (by repeat (first | exact Part.nil _ | (apply Part.cons; with_reducible (first | exact P0 | exact P1 | exact P2 | exact P3 | exact P4 | exact P5 | exact P6 | exact P7 | exact P8 | exact P9 | exact P10 | exact P11 | exact P12 | exact P13 | exact P14 | exact P15 | exact P16 | exact P17 | exact P18 | exact P19 | exact P20 | exact P21 | exact P22 | exact P23)) | (apply Part.flat; simp only [List.cons_append, List.nil_append]) | (apply Part.cons; (first | exact P0 | exact P1 | exact P2 | exact P3 | exact P4 | exact P5 | exact P6 | exact P7 | exact P8 | exact P9 | exact P10 | exact P11 | exact P12 | exact P13 | exact P14 | exact P15 | exact P16 | exact P17 | exact P18 | exact P19 | exact P20 | exact P21 | exact P22 | exact P23)) | (apply Part.nilc))) ?_ ?_)
  · rintro c post H' ⟨ex, hhx, sgx, rfl, rfl, hkx, hMx, rfl⟩ hH
    try simp only [List.cons_append, List.nil_append] at hH
    subst hH
    refine thenP_panic (bodyP_panic (H' := [sgx, escS ex]) (by repeat (first | exact Part.nil _ | (apply Part.cons; with_reducible (first | exact P0 | exact P1 | exact P2 | exact P3 | exact P4 | exact P5 | exact P6 | exact P7 | exact P8 | exact P9 | exact P10 | exact P11 | exact P12 | exact P13 | exact P14 | exact P15 | exact P16 | exact P17 | exact P18 | exact P19 | exact P20 | exact P21 | exact P22 | exact P23)) | (apply Part.flat; simp only [List.cons_append, List.nil_append]) | (apply Part.cons; (first | exact P0 | exact P1 | exact P2 | exact P3 | exact P4 | exact P5 | exact P6 | exact P7 | exact P8 | exact P9 | exact P10 | exact P11 | exact P12 | exact P13 | exact P14 | exact P15 | exact P16 | exact P17 | exact P18 | exact P19 | exact P20 | exact P21 | exact P22 | exact P23)) | (apply Part.nilc))) ?_)
    rw [bindO_esc] at hP
    injection hP with hP
    subst hP
    exact ⟨ex, hhx, sgx, rfl, rfl, hk.trans hkx, hMx, rfl⟩
  rintro v post H' ⟨a1, m1, rfl, rfl, hh1, sg1, hk1, hM, rfl⟩ hH
  try simp only [List.cons_append, List.nil_append] at hH
  subst hH
  dsimp only [bindO] at hP
  replace hk := hk.trans hk1
  obtain ⟨g, q2, hg, hq, he⟩ := hfv0.keep hk1
  injection he with he
  injection he with he
  injection he with he he2
  subst he
  refine SPL_nil ?_
  refine thenP_n ?_
  obtain ⟨mp, hpc, hP⟩ := bnd1 hP
  unfold pcM at hpc
  obtain ⟨f2, hf2, hpc⟩ := bnd1 hpc
  unfold setF getT at hpc
  obtain ⟨t, ht, hpc⟩ := bnd1 hpc
  have hil : i < t.frames.length := Decidable.byContradiction fun q => by rw [if_neg q] at hpc; cases hpc
  rw [if_pos hil] at hpc
  injection hpc with hpc
  subst hpc
  have hfe : t.frames[i] = f2 := by
    obtain ⟨t', ht', hi', he'⟩ := getF_some hf2
    rw [ht] at ht'
    injection ht' with ht'
    subst ht'
    exact he'
  obtain ⟨na, nc, r, ss, sf, sn, s0, s2, c0, c2, rfl, hpre, hss, hsf, hsn, hput⟩ := hM.opnT ht hg
  obtain ⟨q', fsp, hq', hfc, hfsp, rfl⟩ := hsf.row (by omega)
  rw [hq] at hq'
  injection hq' with hq'
  injection hq' with hq'
  subst hq'
  refine SP_openAt [r, blk b.thb 263 (c0 ++ [I t.st, I t.fn, .slice g.sa t.stack.length g.sc, .slice g.fa t.frames.length g.fc, .slice na t.opn.length nc] ++ c2), s0, ss, blk q 331 (t.frames.flatMap frV ++ fsp), sn, s2] (by first | exact P0 | exact P1 | exact P2 | exact P3 | exact P4 | exact P5 | exact P6 | exact P7 | exact P8 | exact P9 | exact P10 | exact P11 | exact P12 | exact P13 | exact P14 | exact P15 | exact P16 | exact P17 | exact P18 | exact P19 | exact P20 | exact P21 | exact P22 | exact P23) ?_
  simp only [List.cons_append, List.nil_append]
  refine SP_region ?_
  refine SPL_y (y_move rfl) rfl ?_
  refine SPL_y (y_move rfl) rfl ?_
  refine SPL_y (y_nil rfl) rfl ?_
  refine SPL_y (y_fa fld_331_1 rfl) rfl ?_
  refine SPL_one rfl (SP1_storeF (x := { f2 with pc := x }) (j := (i : Int)) frV_len Tryz.sizeOf3 rfl rfl rfl rfl hil (by decide) (by rw [hfe]; rfl) (by first | exact U0 | exact U1 | exact U2 | exact U3 | exact U4 | exact U5 | exact U6 | exact U7 | exact U8 | exact U9 | exact U10 | exact U11 | exact U12 | exact U13 | exact U14 | exact U15 | exact U16 | exact U17 | exact U18 | exact U19 | exact U20 | exact U21 | exact U22 | exact U23) ?_)
  refine SPL_nil ?_
  refine bodyP_end (H' := [List.flatten [r, blk b.thb 263 (c0 ++ [I t.st, I t.fn, .slice g.sa t.stack.length g.sc, .slice g.fa t.frames.length g.fc, .slice na t.opn.length nc] ++ c2), s0, ss, (blk q 331 ((t.frames.set i { f2 with pc := x }).flatMap frV ++ fsp)), sn, s2]]) (Res0 rfl) (by repeat (first | exact Part.nil _ | (apply Part.cons; with_reducible (first | exact P0 | exact P1 | exact P2 | exact P3 | exact P4 | exact P5 | exact P6 | exact P7 | exact P8 | exact P9 | exact P10 | exact P11 | exact P12 | exact P13 | exact P14 | exact P15 | exact P16 | exact P17 | exact P18 | exact P19 | exact P20 | exact P21 | exact P22 | exact P23)) | (apply Part.flat; simp only [List.cons_append, List.nil_append]) | (apply Part.cons; (first | exact P0 | exact P1 | exact P2 | exact P3 | exact P4 | exact P5 | exact P6 | exact P7 | exact P8 | exact P9 | exact P10 | exact P11 | exact P12 | exact P13 | exact P14 | exact P15 | exact P16 | exact P17 | exact P18 | exact P19 | exact P20 | exact P21 | exact P22 | exact P23)) | (apply Part.nilc))) ?_
  injection hP with hP
  subst hP
  have hA1 : Arr 331 5 g.fa (t.frames.set i { f2 with pc := x }).length g.fc ((t.frames.set i { f2 with pc := x }).flatMap frV) (blk q 331 ((t.frames.set i { f2 with pc := x }).flatMap frV ++ fsp)) := by
    rw [hq]; exact Arr.mk (by rw [flat_len frV_len]) (by simpa using hfc) (by simpa using hfsp)
  have hM2 := hput { t with frames := t.frames.set i { f2 with pc := x } } g na nc ss _ sn hss hA1 hsn
  rw [set_same hg] at hM2
  dsimp only at hM2
  rw [List.length_set] at hM2
  exact ⟨(), _, rfl, rfl, _, _, hk, hM2, rfl⟩

theorem vm_numOf (b : VB) (ph : PH) (hh : List TH) {m : VM} (x : V) (s : List UInt8) (seg : Seg) (hM : isVM b ph hh m seg) : Spec Tryz.prog 305 [.agg (valV x).toArray, S s] [seg] (RetP (fun v H => ∃ a, numOfM x s m = .ok a m ∧ v = .int .u64 a ∧ H = [seg]) (outPan b ph hh (numOfM x s m))) := by
  obtain ⟨xt, xn, xs⟩ := x
  dsimp only [valV]
  unfold numOfM
  dsimp only
  refine Spec_enter Tryz.func305 rfl Tryz.ntmps305 rfl ?_
  show SP _ _ _ _ _ [(0, _), (1, _)] _
  refine SP_seq ?_
  refine SP_region ?_
  refine SPL_one rfl (SP1_box rfl rfl rfl ?_)
  intro b2
  refine SPL_y (y_assign rfl) rfl ?_
  refine SPL_nil ?_
  refine thenP_n ?_
  refine SP_seq ?_
  refine SP_seq ?_
  refine SP_region ?_
  refine SPL_y (y_fa fld_42_0 rfl) rfl ?_
  refine SPL_y (y_load Tryz.isAgg3 rfl (by repeat (first | exact Cell.amid hpre rfl | exact Cell.head rfl | apply Cell.tail))) rfl ?_
  refine SPL_if (y_neq rfl rfl) rfl ?_ ?_
  · intro h1_2
    refine SPL_nil ?_
    refine thenP_n ?_
    refine SP_cond_t rfl ?_
    refine SP_region ?_
    refine SPL_y (y_move rfl) rfl ?_
    refine SPL_one rfl (SP1_callp (vm_raise s) Tryz.call281 rfl rfl (by repeat (first | exact Part.nil _ | (apply Part.cons; with_reducible (first | exact P0 | exact P1 | exact P2 | exact P3 | exact P4 | exact P5 | exact P6 | exact P7 | exact P8 | exact P9 | exact P10 | exact P11 | exact P12 | exact P13 | exact P14 | exact P15 | exact P16 | exact P17 | exact P18 | exact P19 | exact P20 | exact P21 | exact P22 | exact P23)) | (apply Part.flat; simp only [List.cons_append, List.nil_append]) | (apply Part.cons; (first | exact P0 | exact P1 | exact P2 | exact P3 | exact P4 | exact P5 | exact P6 | exact P7 | exact P8 | exact P9 | exact P10 | exact P11 | exact P12 | exact P13 | exact P14 | exact P15 | exact P16 | exact P17 | exact P18 | exact P19 | exact P20 | exact P21 | exact P22 | exact P23)) | (apply Part.nilc))) ?_ ?_)
    · rintro c post H' ⟨bb, rfl, rfl⟩ hH
      try simp only [List.cons_append, List.nil_append] at hH
      subst hH
      refine thenP_panic (bodyP_panic (H' := [seg, blk bb 335 (valV (strV s))]) (by repeat (first | exact Part.nil _ | (apply Part.cons; with_reducible (first | exact P0 | exact P1 | exact P2 | exact P3 | exact P4 | exact P5 | exact P6 | exact P7 | exact P8 | exact P9 | exact P10 | exact P11 | exact P12 | exact P13 | exact P14 | exact P15 | exact P16 | exact P17 | exact P18 | exact P19 | exact P20 | exact P21 | exact P22 | exact P23)) | (apply Part.flat; simp only [List.cons_append, List.nil_append]) | (apply Part.cons; (first | exact P0 | exact P1 | exact P2 | exact P3 | exact P4 | exact P5 | exact P6 | exact P7 | exact P8 | exact P9 | exact P10 | exact P11 | exact P12 | exact P13 | exact P14 | exact P15 | exact P16 | exact P17 | exact P18 | exact P19 | exact P20 | exact P21 | exact P22 | exact P23)) | (apply Part.nilc))) ?_)
      rw [if_pos h1_2]
      exact ⟨.thr (strV s) m bb, hh, seg, rfl, rfl, KF.refl _, hM, rfl⟩
    rintro v post H' hF hH
    exact hF.elim
  intro h1_2
  refine SPL_nil ?_
  refine thenP_n ?_
  refine SP_cond_f rfl ?_
  refine SP_skip ?_
  refine thenP_n ?_
  refine SP_seq ?_
  refine SP_region ?_
  refine SPL_y (y_fa fld_42_1 rfl) rfl ?_
  refine SPL_y (y_load Tryz.isAgg40 rfl (by repeat (first | exact Cell.amid hpre rfl | exact Cell.head rfl | apply Cell.tail))) rfl ?_
  refine SPL_y (y_assign rfl) rfl ?_
  refine SPL_nil ?_
  refine thenP_n ?_
  refine SP_ret ?_
  refine bodyP_ret (H' := [seg]) (Res1 rfl rfl) (by repeat (first | exact Part.nil _ | (apply Part.cons; with_reducible (first | exact P0 | exact P1 | exact P2 | exact P3 | exact P4 | exact P5 | exact P6 | exact P7 | exact P8 | exact P9 | exact P10 | exact P11 | exact P12 | exact P13 | exact P14 | exact P15 | exact P16 | exact P17 | exact P18 | exact P19 | exact P20 | exact P21 | exact P22 | exact P23)) | (apply Part.flat; simp only [List.cons_append, List.nil_append]) | (apply Part.cons; (first | exact P0 | exact P1 | exact P2 | exact P3 | exact P4 | exact P5 | exact P6 | exact P7 | exact P8 | exact P9 | exact P10 | exact P11 | exact P12 | exact P13 | exact P14 | exact P15 | exact P16 | exact P17 | exact P18 | exact P19 | exact P20 | exact P21 | exact P22 | exact P23)) | (apply Part.nilc))) ?_
  rw [if_neg h1_2]
  exact ⟨_, rfl, rfl, rfl⟩

theorem vm_tabOf (b : VB) (ph : PH) (hh : List TH) {m : VM} (x : V) (s : List UInt8) (seg : Seg) (hM : isVM b ph hh m seg) : Spec Tryz.prog 294 [.agg (valV x).toArray, S s] [seg] (RetP (fun v H => ∃ a, tabOfM x s m = .ok a m ∧ v = I a ∧ H = [seg]) (outPan b ph hh (tabOfM x s m))) := by
  obtain ⟨xt, xn, xs⟩ := x
  dsimp only [valV]
  unfold tabOfM
  dsimp only
  refine Spec_enter Tryz.func294 rfl Tryz.ntmps294 rfl ?_
  show SP _ _ _ _ _ [(0, _), (1, _)] _
  refine SP_seq ?_
  refine SP_region ?_
  refine SPL_one rfl (SP1_box rfl rfl rfl ?_)
  intro b2
  refine SPL_y (y_assign rfl) rfl ?_
  refine SPL_nil ?_
  refine thenP_n ?_
  refine SP_seq ?_
  refine SP_seq ?_
  refine SP_region ?_
  refine SPL_y (y_fa fld_42_0 rfl) rfl ?_
  refine SPL_y (y_load Tryz.isAgg3 rfl (by repeat (first | exact Cell.amid hpre rfl | exact Cell.head rfl | apply Cell.tail))) rfl ?_
  refine SPL_if (y_neq rfl rfl) rfl ?_ ?_
  · intro h1_2
    refine SPL_nil ?_
    refine thenP_n ?_
    refine SP_cond_t rfl ?_
    refine SP_region ?_
    refine SPL_y (y_move rfl) rfl ?_
    refine SPL_one rfl (SP1_callp (vm_raise s) Tryz.call281 rfl rfl (by repeat (first | exact Part.nil _ | (apply Part.cons; with_reducible (first | exact P0 | exact P1 | exact P2 | exact P3 | exact P4 | exact P5 | exact P6 | exact P7 | exact P8 | exact P9 | exact P10 | exact P11 | exact P12 | exact P13 | exact P14 | exact P15 | exact P16 | exact P17 | exact P18 | exact P19 | exact P20 | exact P21 | exact P22 | exact P23)) | (apply Part.flat; simp only [List.cons_append, List.nil_append]) | (apply Part.cons; (first | exact P0 | exact P1 | exact P2 | exact P3 | exact P4 | exact P5 | exact P6 | exact P7 | exact P8 | exact P9 | exact P10 | exact P11 | exact P12 | exact P13 | exact P14 | exact P15 | exact P16 | exact P17 | exact P18 | exact P19 | exact P20 | exact P21 | exact P22 | exact P23)) | (apply Part.nilc))) ?_ ?_)
    · rintro c post H' ⟨bb, rfl, rfl⟩ hH
      try simp only [List.cons_append, List.nil_append] at hH
      subst hH
      refine thenP_panic (bodyP_panic (H' := [seg, blk bb 335 (valV (strV s))]) (by repeat (first | exact Part.nil _ | (apply Part.cons; with_reducible (first | exact P0 | exact P1 | exact P2 | exact P3 | exact P4 | exact P5 | exact P6 | exact P7 | exact P8 | exact P9 | exact P10 | exact P11 | exact P12 | exact P13 | exact P14 | exact P15 | exact P16 | exact P17 | exact P18 | exact P19 | exact P20 | exact P21 | exact P22 | exact P23)) | (apply Part.flat; simp only [List.cons_append, List.nil_append]) | (apply Part.cons; (first | exact P0 | exact P1 | exact P2 | exact P3 | exact P4 | exact P5 | exact P6 | exact P7 | exact P8 | exact P9 | exact P10 | exact P11 | exact P12 | exact P13 | exact P14 | exact P15 | exact P16 | exact P17 | exact P18 | exact P19 | exact P20 | exact P21 | exact P22 | exact P23)) | (apply Part.nilc))) ?_)
      rw [if_pos h1_2]
      exact ⟨.thr (strV s) m bb, hh, seg, rfl, rfl, KF.refl _, hM, rfl⟩
    rintro v post H' hF hH
    exact hF.elim
  intro h1_2
  refine SPL_nil ?_
  refine thenP_n ?_
  refine SP_cond_f rfl ?_
  refine SP_skip ?_
  refine thenP_n ?_
  refine SP_seq ?_
  refine SP_region ?_
  refine SPL_y (y_fa fld_42_1 rfl) rfl ?_
  refine SPL_y (y_load Tryz.isAgg40 rfl (by repeat (first | exact Cell.amid hpre rfl | exact Cell.head rfl | apply Cell.tail))) rfl ?_
  refine SPL_y (y_conv Tryz.underlying40 Tryz.underlying3 rfl rfl) rfl ?_
  refine SPL_y (y_assign rfl) rfl ?_
  refine SPL_nil ?_
  refine thenP_n ?_
  refine SP_ret ?_
  refine bodyP_ret (H' := [seg]) (Res1 rfl rfl) (by repeat (first | exact Part.nil _ | (apply Part.cons; with_reducible (first | exact P0 | exact P1 | exact P2 | exact P3 | exact P4 | exact P5 | exact P6 | exact P7 | exact P8 | exact P9 | exact P10 | exact P11 | exact P12 | exact P13 | exact P14 | exact P15 | exact P16 | exact P17 | exact P18 | exact P19 | exact P20 | exact P21 | exact P22 | exact P23)) | (apply Part.flat; simp only [List.cons_append, List.nil_append]) | (apply Part.cons; (first | exact P0 | exact P1 | exact P2 | exact P3 | exact P4 | exact P5 | exact P6 | exact P7 | exact P8 | exact P9 | exact P10 | exact P11 | exact P12 | exact P13 | exact P14 | exact P15 | exact P16 | exact P17 | exact P18 | exact P19 | exact P20 | exact P21 | exact P22 | exact P23)) | (apply Part.nilc))) ?_
  rw [if_neg h1_2]
  exact ⟨_, rfl, rfl, rfl⟩

end Go.Sl
