/- Walks: towerlaw.DoM (made by program out of short notes) -/
import Derived.Test.Qxb6500572aGreatDoorWTmB
import Derived.Test.Qxb6500572aGreatDoorWLawE
namespace Go.Sl
open Go Go.Wl Go.Proofs
set_option maxRecDepth 100000
set_option linter.unusedVariables false
set_option linter.unusedSimpArgs false
theorem tm_DoM_loadE (rb pb kb x gb mb : Nat) (M : Mw) (fa : Option Addr) (rv : Value) (s0 sx sp sk : Seg) (E : RE) (R : RS) (hp : isPm pb fa M.P 0 sp) (hk : isMm kb M.mem sk) (hx : isR x (pvp pb) rv (pvp kb) E R s0) (hn : R.n = M.n) (hsx : isSrc rv M.src sx) (g : Rg) (s sm : Seg) (hg : isRegs gb mb g s sm) (o : Op1) (hkind : o.kind = 8) (ok0 : ModOk g.m) (hrun : ∀ (fs : List Fm) (f : Nat) (u : Fm), SameM g.m fs → fs[f]? = some u → g.m.imports.length ≤ f → f < (g.m.imports.length + g.m.funcs.length) → u.code = [] → (readsM g.m (g.m.imports.length + g.m.funcs.length) [] 0).2 = none → fs.length = (g.m.imports.length + g.m.funcs.length) → RunOk fs u u.src (Km.start u) [] 0) (he : (loadMM g.m).2.2.2 ≠ 0) : Spec Tryz.prog 25 [pvp rb, .pointer (some ⟨gb, 0, none⟩), .agg (opV o).toArray] [blk rb 66 [pvp pb, pvp kb, pvp x], s0, sx, sp, sk, s, sm] (Ret fun v H => ∃ HM, v = .agg (ansV ⟨(loadMM g.m).2.2.2, (loadMM g.m).2.1, (loadMM g.m).2.2.1, []⟩).toArray ∧ H = HM ++ [s, sm] ∧ isMow rb M HM) := by
  have hg0 := hg
  obtain ⟨mb2, ca, cc, aa, ac, s2, sc, sv, rfl, hm1, hm2, hcd, hav⟩ := hg
  obtain ⟨ok, oa, ob, oc, os, ot⟩ := o
  dsimp only at hkind
  refine Spec_openAt [blk gb 37 [.pointer (some ⟨mb, 0, none⟩), .pointer (some ⟨mb2, 0, none⟩), .slice ca g.code.length cc, .slice aa g.args.length ac], s2, sc, sv] (by first | exact P0 | exact P1 | exact P2 | exact P3 | exact P4 | exact P5 | exact P6 | exact P7 | exact P8 | exact P9 | exact P10 | exact P11 | exact P12 | exact P13 | exact P14 | exact P15 | exact P16 | exact P17 | exact P18 | exact P19 | exact P20 | exact P21 | exact P22 | exact P23) ?_
  simp only [List.cons_append, List.nil_append, opV]
  refine Spec_enter Tryz.func25 rfl Tryz.ntmps25 rfl ?_
  show SP _ _ _ _ _ [(0, _), (1, _), (2, _)] _
  refine SP_seq ?_
  refine SP_region ?_
  refine SPL_one rfl (SP1_box rfl rfl rfl ?_)
  intro b5
  refine SPL_one rfl (SP1_alloc Tryz.zeroValue53 rfl rfl ?_)
  intro b6
  refine SPL_nil ?_
  refine thenP_n ?_
  refine SP_seq ?_
  refine SP_seq ?_
  refine SP_region ?_
  refine SPL_y (y_fa fld_43_0 rfl) rfl ?_
  refine SPL_y (y_load Tryz.isAgg3 rfl (by repeat (first | exact Cell.head rfl | apply Cell.tail))) rfl ?_
  refine SPL_nil ?_
  refine thenP_n ?_
  refine SP_block ?_
  refine SP_seq ?_
  refine SP_region ?_
  refine SPL_y (y_eqlT rfl rfl hkind) rfl ?_
  refine SPL_y (y_assign rfl) rfl ?_
  refine SPL_nil ?_
  refine thenP_n ?_
  refine SP_cond_t rfl ?_
  refine SP_seq ?_
  refine SP_region ?_
  refine SPL_y (y_move rfl) rfl ?_
  refine SPL_y (y_move rfl) rfl ?_
  refine SPL_y (y_nil rfl) rfl ?_
  refine SPL_y (y_fa fld_37_1 rfl) rfl ?_
  refine SPL_y (y_load Tryz.isAgg32 rfl (by repeat (first | exact Cell.head rfl | apply Cell.tail))) rfl ?_
  refine SPL_one rfl (SP1_call (tm_LinkE rb mb2 (pvp pb) (pvp kb) (pvp x) g.m s2 hm2 ok0 hrun he) Tryz.call24 rfl rfl (by repeat (first | exact Part.nil _ | (apply Part.cons; (first | exact P0 | exact P1 | exact P2 | exact P3 | exact P4 | exact P5 | exact P6 | exact P7 | exact P8 | exact P9 | exact P10 | exact P11 | exact P12 | exact P13 | exact P14 | exact P15 | exact P16 | exact P17 | exact P18 | exact P19 | exact P20 | exact P21 | exact P22 | exact P23)) | (apply Part.flat; simp only [List.cons_append, List.nil_append]) | (apply Part.nilc))) ?_)
  rintro v post H' ⟨rfl, rfl⟩ hH
  try simp only [List.cons_append, List.nil_append] at hH
  subst hH
  refine SPL_one rfl (SP1_storeAll Tryz.sizeOf53 rfl rfl rfl rfl rfl (by first | exact U0 | exact U1 | exact U2 | exact U3 | exact U4 | exact U5 | exact U6 | exact U7 | exact U8 | exact U9 | exact U10 | exact U11 | exact U12 | exact U13 | exact U14 | exact U15 | exact U16 | exact U17 | exact U18 | exact U19 | exact U20 | exact U21 | exact U22 | exact U23) (by rfl) ?_)
  refine SPL_nil ?_
  refine thenP_n ?_
  refine SP_ret ?_
  refine inBlockP_ret (thenP_ret (bodyP_ret (H' := [blk rb 66 [pvp pb, pvp kb, pvp x], s0, sx, sp, sk, List.flatten [blk gb 37 [.pointer (some ⟨mb, 0, none⟩), .pointer (some ⟨mb2, 0, none⟩), .slice ca g.code.length cc, .slice aa g.args.length ac], s2, sc, sv], sm]) (ResC rfl rfl Tryz.isAgg53 Tryz.sizeOf53 rfl (by repeat (first | exact Cells.all _ | exact Cells.head rfl | apply Cells.tail))) (by repeat (first | exact Part.nil _ | (apply Part.cons; (first | exact P0 | exact P1 | exact P2 | exact P3 | exact P4 | exact P5 | exact P6 | exact P7 | exact P8 | exact P9 | exact P10 | exact P11 | exact P12 | exact P13 | exact P14 | exact P15 | exact P16 | exact P17 | exact P18 | exact P19 | exact P20 | exact P21 | exact P22 | exact P23)) | (apply Part.flat; simp only [List.cons_append, List.nil_append]) | (apply Part.nilc))) ?_))
  exact ⟨[blk rb 66 [pvp pb, pvp kb, pvp x], s0, sx, sp, sk], rfl, rfl, pb, kb, x, fa, rv, s0, sx, sp, sk, E, R, rfl, hp, hk, hx, hn, hsx⟩

theorem tm_DoM_loadO (rb pb kb x gb mb : Nat) (M : Mw) (fa : Option Addr) (rv : Value) (s0 sx sp sk : Seg) (E : RE) (R : RS) (hp : isPm pb fa M.P 0 sp) (hk : isMm kb M.mem sk) (hx : isR x (pvp pb) rv (pvp kb) E R s0) (hn : R.n = M.n) (hsx : isSrc rv M.src sx) (g : Rg) (s sm : Seg) (hg : isRegs gb mb g s sm) (o : Op1) (hkind : o.kind = 8) (ok0 : ModOk g.m) (hrun : ∀ (fs : List Fm) (f : Nat) (u : Fm), SameM g.m fs → fs[f]? = some u → g.m.imports.length ≤ f → f < (g.m.imports.length + g.m.funcs.length) → u.code = [] → (readsM g.m (g.m.imports.length + g.m.funcs.length) [] 0).2 = none → fs.length = (g.m.imports.length + g.m.funcs.length) → RunOk fs u u.src (Km.start u) [] 0) (he : (loadMM g.m).2.2.2 = 0) : Spec Tryz.prog 25 [pvp rb, .pointer (some ⟨gb, 0, none⟩), .agg (opV o).toArray] [blk rb 66 [pvp pb, pvp kb, pvp x], s0, sx, sp, sk, s, sm] (Ret fun v H => ∃ HM, v = .agg (ansV ⟨0, 0, 0, []⟩).toArray ∧ H = HM ++ [s, sm] ∧ isMow rb (linkM g.m) HM) := by
  have hg0 := hg
  obtain ⟨mb2, ca, cc, aa, ac, s2, sc, sv, rfl, hm1, hm2, hcd, hav⟩ := hg
  obtain ⟨ok, oa, ob, oc, os, ot⟩ := o
  dsimp only at hkind
  refine Spec_openAt [blk gb 37 [.pointer (some ⟨mb, 0, none⟩), .pointer (some ⟨mb2, 0, none⟩), .slice ca g.code.length cc, .slice aa g.args.length ac], s2, sc, sv] (by first | exact P0 | exact P1 | exact P2 | exact P3 | exact P4 | exact P5 | exact P6 | exact P7 | exact P8 | exact P9 | exact P10 | exact P11 | exact P12 | exact P13 | exact P14 | exact P15 | exact P16 | exact P17 | exact P18 | exact P19 | exact P20 | exact P21 | exact P22 | exact P23) ?_
  simp only [List.cons_append, List.nil_append, opV]
  refine Spec_enter Tryz.func25 rfl Tryz.ntmps25 rfl ?_
  show SP _ _ _ _ _ [(0, _), (1, _), (2, _)] _
  refine SP_seq ?_
  refine SP_region ?_
  refine SPL_one rfl (SP1_box rfl rfl rfl ?_)
  intro b5
  refine SPL_one rfl (SP1_alloc Tryz.zeroValue53 rfl rfl ?_)
  intro b6
  refine SPL_nil ?_
  refine thenP_n ?_
  refine SP_seq ?_
  refine SP_seq ?_
  refine SP_region ?_
  refine SPL_y (y_fa fld_43_0 rfl) rfl ?_
  refine SPL_y (y_load Tryz.isAgg3 rfl (by repeat (first | exact Cell.head rfl | apply Cell.tail))) rfl ?_
  refine SPL_nil ?_
  refine thenP_n ?_
  refine SP_block ?_
  refine SP_seq ?_
  refine SP_region ?_
  refine SPL_y (y_eqlT rfl rfl hkind) rfl ?_
  refine SPL_y (y_assign rfl) rfl ?_
  refine SPL_nil ?_
  refine thenP_n ?_
  refine SP_cond_t rfl ?_
  refine SP_seq ?_
  refine SP_region ?_
  refine SPL_y (y_move rfl) rfl ?_
  refine SPL_y (y_move rfl) rfl ?_
  refine SPL_y (y_nil rfl) rfl ?_
  refine SPL_y (y_fa fld_37_1 rfl) rfl ?_
  refine SPL_y (y_load Tryz.isAgg32 rfl (by repeat (first | exact Cell.head rfl | apply Cell.tail))) rfl ?_
  refine SPL_one rfl (SP1_call (tm_LinkO rb mb2 (pvp pb) (pvp kb) (pvp x) g.m s2 hm2 ok0 hrun he) Tryz.call24 rfl rfl (by repeat (first | exact Part.nil _ | (apply Part.cons; (first | exact P0 | exact P1 | exact P2 | exact P3 | exact P4 | exact P5 | exact P6 | exact P7 | exact P8 | exact P9 | exact P10 | exact P11 | exact P12 | exact P13 | exact P14 | exact P15 | exact P16 | exact P17 | exact P18 | exact P19 | exact P20 | exact P21 | exact P22 | exact P23)) | (apply Part.flat; simp only [List.cons_append, List.nil_append]) | (apply Part.nilc))) ?_)
  rintro v post H' ⟨HM, rfl, rfl, hM⟩ hH
  obtain ⟨pb', kb', x', fa', rv', s', sx', sp', sk', E', R', rfl, hM2⟩ := hM
  try simp only [List.cons_append, List.nil_append] at hH
  subst hH
  refine SPL_one rfl (SP1_storeAll Tryz.sizeOf53 rfl rfl rfl rfl rfl (by first | exact U0 | exact U1 | exact U2 | exact U3 | exact U4 | exact U5 | exact U6 | exact U7 | exact U8 | exact U9 | exact U10 | exact U11 | exact U12 | exact U13 | exact U14 | exact U15 | exact U16 | exact U17 | exact U18 | exact U19 | exact U20 | exact U21 | exact U22 | exact U23) (by rfl) ?_)
  refine SPL_nil ?_
  refine thenP_n ?_
  refine SP_ret ?_
  refine inBlockP_ret (thenP_ret (bodyP_ret (H' := [blk rb 66 [pvp pb', pvp kb', pvp x'], s', sx', sp', sk', List.flatten [blk gb 37 [.pointer (some ⟨mb, 0, none⟩), .pointer (some ⟨mb2, 0, none⟩), .slice ca g.code.length cc, .slice aa g.args.length ac], s2, sc, sv], sm]) (ResC rfl rfl Tryz.isAgg53 Tryz.sizeOf53 rfl (by repeat (first | exact Cells.all _ | exact Cells.head rfl | apply Cells.tail))) (by repeat (first | exact Part.nil _ | (apply Part.cons; (first | exact P0 | exact P1 | exact P2 | exact P3 | exact P4 | exact P5 | exact P6 | exact P7 | exact P8 | exact P9 | exact P10 | exact P11 | exact P12 | exact P13 | exact P14 | exact P15 | exact P16 | exact P17 | exact P18 | exact P19 | exact P20 | exact P21 | exact P22 | exact P23)) | (apply Part.flat; simp only [List.cons_append, List.nil_append]) | (apply Part.nilc))) ?_))
  exact ⟨[blk rb 66 [pvp pb', pvp kb', pvp x'], s', sx', sp', sk'], rfl, rfl, pb', kb', x', fa', rv', s', sx', sp', sk', E', R', rfl, hM2⟩

theorem tm_DoM_show (rb pb kb x gb mb : Nat) (M : Mw) (fa : Option Addr) (rv : Value) (s0 sx sp sk : Seg) (E : RE) (R : RS) (hp : isPm pb fa M.P 0 sp) (hk : isMm kb M.mem sk) (hx : isR x (pvp pb) rv (pvp kb) E R s0) (hn : R.n = M.n) (hsx : isSrc rv M.src sx) (g : Rg) (s sm : Seg) (hg : isRegs gb mb g s sm) (o : Op1) (hkind : o.kind = 11) (hB : ProgB M.P.flat) (hb1 : (showProg M.P.flat).length ≤ 1000000000) (hb2 : (showMem M.mem).length ≤ 1000000000) : Spec Tryz.prog 25 [pvp rb, .pointer (some ⟨gb, 0, none⟩), .agg (opV o).toArray] [blk rb 66 [pvp pb, pvp kb, pvp x], s0, sx, sp, sk, s, sm] (Ret fun v H => ∃ HM, v = .agg (ansV ⟨0, 0, 0, showProg M.P.flat ++ [124] ++ showMem M.mem⟩).toArray ∧ H = HM ++ [s, sm] ∧ isMow rb M HM) := by
  have hg0 := hg
  obtain ⟨mb2, ca, cc, aa, ac, s2, sc, sv, rfl, hm1, hm2, hcd, hav⟩ := hg
  obtain ⟨ok, oa, ob, oc, os, ot⟩ := o
  dsimp only at hkind
  refine Spec_openAt [blk gb 37 [.pointer (some ⟨mb, 0, none⟩), .pointer (some ⟨mb2, 0, none⟩), .slice ca g.code.length cc, .slice aa g.args.length ac], s2, sc, sv] (by first | exact P0 | exact P1 | exact P2 | exact P3 | exact P4 | exact P5 | exact P6 | exact P7 | exact P8 | exact P9 | exact P10 | exact P11 | exact P12 | exact P13 | exact P14 | exact P15 | exact P16 | exact P17 | exact P18 | exact P19 | exact P20 | exact P21 | exact P22 | exact P23) ?_
  simp only [List.cons_append, List.nil_append, opV]
  refine Spec_enter Tryz.func25 rfl Tryz.ntmps25 rfl ?_
  show SP _ _ _ _ _ [(0, _), (1, _), (2, _)] _
  refine SP_seq ?_
  refine SP_region ?_
  refine SPL_one rfl (SP1_box rfl rfl rfl ?_)
  intro b5
  refine SPL_one rfl (SP1_alloc Tryz.zeroValue53 rfl rfl ?_)
  intro b6
  refine SPL_nil ?_
  refine thenP_n ?_
  refine SP_seq ?_
  refine SP_seq ?_
  refine SP_region ?_
  refine SPL_y (y_fa fld_43_0 rfl) rfl ?_
  refine SPL_y (y_load Tryz.isAgg3 rfl (by repeat (first | exact Cell.head rfl | apply Cell.tail))) rfl ?_
  refine SPL_nil ?_
  refine thenP_n ?_
  refine SP_block ?_
  refine SP_seq ?_
  refine SP_region ?_
  refine SPL_y (y_eqlF rfl rfl (by omega)) rfl ?_
  refine SPL_y (y_assign rfl) rfl ?_
  refine SPL_nil ?_
  refine thenP_n ?_
  refine SP_cond_f rfl ?_
  refine SP_seq ?_
  refine SP_region ?_
  refine SPL_y (y_eqlF rfl rfl (by omega)) rfl ?_
  refine SPL_y (y_assign rfl) rfl ?_
  refine SPL_nil ?_
  refine thenP_n ?_
  refine SP_cond_f rfl ?_
  refine SP_seq ?_
  refine SP_region ?_
  refine SPL_y (y_eqlT rfl rfl hkind) rfl ?_
  refine SPL_y (y_assign rfl) rfl ?_
  refine SPL_nil ?_
  refine thenP_n ?_
  refine SP_cond_t rfl ?_
  refine SP_seq ?_
  refine SP_region ?_
  refine SPL_y (y_move rfl) rfl ?_
  refine SPL_one rfl (SP1_call (tm_ShowM rb pb kb x M fa rv s0 sx sp sk E R hp hk hx hB hb1 hb2) Tryz.call28 rfl rfl (by repeat (first | exact Part.nil _ | (apply Part.cons; (first | exact P0 | exact P1 | exact P2 | exact P3 | exact P4 | exact P5 | exact P6 | exact P7 | exact P8 | exact P9 | exact P10 | exact P11 | exact P12 | exact P13 | exact P14 | exact P15 | exact P16 | exact P17 | exact P18 | exact P19 | exact P20 | exact P21 | exact P22 | exact P23)) | (apply Part.flat; simp only [List.cons_append, List.nil_append]) | (apply Part.nilc))) ?_)
  rintro v post H' ⟨rfl, rfl⟩ hH
  try simp only [List.cons_append, List.nil_append] at hH
  subst hH
  refine SPL_y (y_build B53 rfl rfl (by simp only [fillL, List.foldl_cons, List.foldl_nil, List.set_cons_zero, List.set_cons_succ]; exact rfl)) rfl ?_
  refine SPL_one rfl (SP1_storeAll Tryz.sizeOf53 rfl rfl rfl rfl rfl (by first | exact U0 | exact U1 | exact U2 | exact U3 | exact U4 | exact U5 | exact U6 | exact U7 | exact U8 | exact U9 | exact U10 | exact U11 | exact U12 | exact U13 | exact U14 | exact U15 | exact U16 | exact U17 | exact U18 | exact U19 | exact U20 | exact U21 | exact U22 | exact U23) (by rfl) ?_)
  refine SPL_nil ?_
  refine thenP_n ?_
  refine SP_ret ?_
  refine inBlockP_ret (thenP_ret (bodyP_ret (H' := [blk rb 66 [pvp pb, pvp kb, pvp x], s0, sx, sp, sk, List.flatten [blk gb 37 [.pointer (some ⟨mb, 0, none⟩), .pointer (some ⟨mb2, 0, none⟩), .slice ca g.code.length cc, .slice aa g.args.length ac], s2, sc, sv], sm]) (ResC rfl rfl Tryz.isAgg53 Tryz.sizeOf53 rfl (by repeat (first | exact Cells.all _ | exact Cells.head rfl | apply Cells.tail))) (by repeat (first | exact Part.nil _ | (apply Part.cons; (first | exact P0 | exact P1 | exact P2 | exact P3 | exact P4 | exact P5 | exact P6 | exact P7 | exact P8 | exact P9 | exact P10 | exact P11 | exact P12 | exact P13 | exact P14 | exact P15 | exact P16 | exact P17 | exact P18 | exact P19 | exact P20 | exact P21 | exact P22 | exact P23)) | (apply Part.flat; simp only [List.cons_append, List.nil_append]) | (apply Part.nilc))) ?_))
  exact ⟨[blk rb 66 [pvp pb, pvp kb, pvp x], s0, sx, sp, sk], rfl, rfl, pb, kb, x, fa, rv, s0, sx, sp, sk, E, R, rfl, hp, hk, hx, hn, hsx⟩

theorem tm_DoM_check (rb pb kb x gb mb : Nat) (M : Mw) (fa : Option Addr) (rv : Value) (s0 sx sp sk : Seg) (E : RE) (R : RS) (hp : isPm pb fa M.P 0 sp) (hk : isMm kb M.mem sk) (hx : isR x (pvp pb) rv (pvp kb) E R s0) (hn : R.n = M.n) (hsx : isSrc rv M.src sx) (g : Rg) (s sm : Seg) (hg : isRegs gb mb g s sm) (o : Op1) (hkind : o.kind = 12)  : Spec Tryz.prog 25 [pvp rb, .pointer (some ⟨gb, 0, none⟩), .agg (opV o).toArray] [blk rb 66 [pvp pb, pvp kb, pvp x], s0, sx, sp, sk, s, sm] (Ret fun v H => ∃ HM, v = .agg (ansV ⟨0, 0, 1, []⟩).toArray ∧ H = HM ++ [s, sm] ∧ isMow rb M HM) := by
  have hg0 := hg
  obtain ⟨mb2, ca, cc, aa, ac, s2, sc, sv, rfl, hm1, hm2, hcd, hav⟩ := hg
  obtain ⟨ok, oa, ob, oc, os, ot⟩ := o
  dsimp only at hkind
  refine Spec_openAt [blk gb 37 [.pointer (some ⟨mb, 0, none⟩), .pointer (some ⟨mb2, 0, none⟩), .slice ca g.code.length cc, .slice aa g.args.length ac], s2, sc, sv] (by first | exact P0 | exact P1 | exact P2 | exact P3 | exact P4 | exact P5 | exact P6 | exact P7 | exact P8 | exact P9 | exact P10 | exact P11 | exact P12 | exact P13 | exact P14 | exact P15 | exact P16 | exact P17 | exact P18 | exact P19 | exact P20 | exact P21 | exact P22 | exact P23) ?_
  simp only [List.cons_append, List.nil_append, opV]
  refine Spec_enter Tryz.func25 rfl Tryz.ntmps25 rfl ?_
  show SP _ _ _ _ _ [(0, _), (1, _), (2, _)] _
  refine SP_seq ?_
  refine SP_region ?_
  refine SPL_one rfl (SP1_box rfl rfl rfl ?_)
  intro b5
  refine SPL_one rfl (SP1_alloc Tryz.zeroValue53 rfl rfl ?_)
  intro b6
  refine SPL_nil ?_
  refine thenP_n ?_
  refine SP_seq ?_
  refine SP_seq ?_
  refine SP_region ?_
  refine SPL_y (y_fa fld_43_0 rfl) rfl ?_
  refine SPL_y (y_load Tryz.isAgg3 rfl (by repeat (first | exact Cell.head rfl | apply Cell.tail))) rfl ?_
  refine SPL_nil ?_
  refine thenP_n ?_
  refine SP_block ?_
  refine SP_seq ?_
  refine SP_region ?_
  refine SPL_y (y_eqlF rfl rfl (by omega)) rfl ?_
  refine SPL_y (y_assign rfl) rfl ?_
  refine SPL_nil ?_
  refine thenP_n ?_
  refine SP_cond_f rfl ?_
  refine SP_seq ?_
  refine SP_region ?_
  refine SPL_y (y_eqlF rfl rfl (by omega)) rfl ?_
  refine SPL_y (y_assign rfl) rfl ?_
  refine SPL_nil ?_
  refine thenP_n ?_
  refine SP_cond_f rfl ?_
  refine SP_seq ?_
  refine SP_region ?_
  refine SPL_y (y_eqlF rfl rfl (by omega)) rfl ?_
  refine SPL_y (y_assign rfl) rfl ?_
  refine SPL_nil ?_
  refine thenP_n ?_
  refine SP_cond_f rfl ?_
  refine SP_seq ?_
  refine SP_region ?_
  refine SPL_y (y_eqlT rfl rfl hkind) rfl ?_
  refine SPL_y (y_assign rfl) rfl ?_
  refine SPL_nil ?_
  refine thenP_n ?_
  refine SP_cond_t rfl ?_
  refine SP_seq ?_
  refine SP_region ?_
  refine SPL_y (y_build B53 rfl rfl (by simp only [fillL, List.foldl_cons, List.foldl_nil, List.set_cons_zero, List.set_cons_succ]; exact rfl)) rfl ?_
  refine SPL_one rfl (SP1_storeAll Tryz.sizeOf53 rfl rfl rfl rfl rfl (by first | exact U0 | exact U1 | exact U2 | exact U3 | exact U4 | exact U5 | exact U6 | exact U7 | exact U8 | exact U9 | exact U10 | exact U11 | exact U12 | exact U13 | exact U14 | exact U15 | exact U16 | exact U17 | exact U18 | exact U19 | exact U20 | exact U21 | exact U22 | exact U23) (by rfl) ?_)
  refine SPL_nil ?_
  refine thenP_n ?_
  refine SP_ret ?_
  refine inBlockP_ret (thenP_ret (bodyP_ret (H' := [blk rb 66 [pvp pb, pvp kb, pvp x], s0, sx, sp, sk, List.flatten [blk gb 37 [.pointer (some ⟨mb, 0, none⟩), .pointer (some ⟨mb2, 0, none⟩), .slice ca g.code.length cc, .slice aa g.args.length ac], s2, sc, sv], sm]) (ResC rfl rfl Tryz.isAgg53 Tryz.sizeOf53 rfl (by repeat (first | exact Cells.all _ | exact Cells.head rfl | apply Cells.tail))) (by repeat (first | exact Part.nil _ | (apply Part.cons; (first | exact P0 | exact P1 | exact P2 | exact P3 | exact P4 | exact P5 | exact P6 | exact P7 | exact P8 | exact P9 | exact P10 | exact P11 | exact P12 | exact P13 | exact P14 | exact P15 | exact P16 | exact P17 | exact P18 | exact P19 | exact P20 | exact P21 | exact P22 | exact P23)) | (apply Part.flat; simp only [List.cons_append, List.nil_append]) | (apply Part.nilc))) ?_))
  exact ⟨[blk rb 66 [pvp pb, pvp kb, pvp x], s0, sx, sp, sk], rfl, rfl, pb, kb, x, fa, rv, s0, sx, sp, sk, E, R, rfl, hp, hk, hx, hn, hsx⟩

theorem tm_DoM_other (rb pb kb x gb mb : Nat) (M : Mw) (fa : Option Addr) (rv : Value) (s0 sx sp sk : Seg) (E : RE) (R : RS) (hp : isPm pb fa M.P 0 sp) (hk : isMm kb M.mem sk) (hx : isR x (pvp pb) rv (pvp kb) E R s0) (hn : R.n = M.n) (hsx : isSrc rv M.src sx) (g : Rg) (s sm : Seg) (hg : isRegs gb mb g s sm) (o : Op1) (hkind : o.kind ≠ 8 ∧ o.kind ≠ 10 ∧ o.kind ≠ 11 ∧ o.kind ≠ 12)  : Spec Tryz.prog 25 [pvp rb, .pointer (some ⟨gb, 0, none⟩), .agg (opV o).toArray] [blk rb 66 [pvp pb, pvp kb, pvp x], s0, sx, sp, sk, s, sm] (Ret fun v H => ∃ HM, v = .agg (ansV ⟨0, 0, 0, []⟩).toArray ∧ H = HM ++ [s, sm] ∧ isMow rb M HM) := by
  have hg0 := hg
  obtain ⟨mb2, ca, cc, aa, ac, s2, sc, sv, rfl, hm1, hm2, hcd, hav⟩ := hg
  obtain ⟨ok, oa, ob, oc, os, ot⟩ := o
  dsimp only at hkind
  refine Spec_openAt [blk gb 37 [.pointer (some ⟨mb, 0, none⟩), .pointer (some ⟨mb2, 0, none⟩), .slice ca g.code.length cc, .slice aa g.args.length ac], s2, sc, sv] (by first | exact P0 | exact P1 | exact P2 | exact P3 | exact P4 | exact P5 | exact P6 | exact P7 | exact P8 | exact P9 | exact P10 | exact P11 | exact P12 | exact P13 | exact P14 | exact P15 | exact P16 | exact P17 | exact P18 | exact P19 | exact P20 | exact P21 | exact P22 | exact P23) ?_
  simp only [List.cons_append, List.nil_append, opV]
  refine Spec_enter Tryz.func25 rfl Tryz.ntmps25 rfl ?_
  show SP _ _ _ _ _ [(0, _), (1, _), (2, _)] _
  refine SP_seq ?_
  refine SP_region ?_
  refine SPL_one rfl (SP1_box rfl rfl rfl ?_)
  intro b5
  refine SPL_one rfl (SP1_alloc Tryz.zeroValue53 rfl rfl ?_)
  intro b6
  refine SPL_nil ?_
  refine thenP_n ?_
  refine SP_seq ?_
  refine SP_seq ?_
  refine SP_region ?_
  refine SPL_y (y_fa fld_43_0 rfl) rfl ?_
  refine SPL_y (y_load Tryz.isAgg3 rfl (by repeat (first | exact Cell.head rfl | apply Cell.tail))) rfl ?_
  refine SPL_nil ?_
  refine thenP_n ?_
  refine SP_block ?_
  refine SP_seq ?_
  refine SP_region ?_
  refine SPL_y (y_eqlF rfl rfl (by omega)) rfl ?_
  refine SPL_y (y_assign rfl) rfl ?_
  refine SPL_nil ?_
  refine thenP_n ?_
  refine SP_cond_f rfl ?_
  refine SP_seq ?_
  refine SP_region ?_
  refine SPL_y (y_eqlF rfl rfl (by omega)) rfl ?_
  refine SPL_y (y_assign rfl) rfl ?_
  refine SPL_nil ?_
  refine thenP_n ?_
  refine SP_cond_f rfl ?_
  refine SP_seq ?_
  refine SP_region ?_
  refine SPL_y (y_eqlF rfl rfl (by omega)) rfl ?_
  refine SPL_y (y_assign rfl) rfl ?_
  refine SPL_nil ?_
  refine thenP_n ?_
  refine SP_cond_f rfl ?_
  refine SP_seq ?_
  refine SP_region ?_
  refine SPL_y (y_eqlF rfl rfl (by omega)) rfl ?_
  refine SPL_y (y_assign rfl) rfl ?_
  refine SPL_nil ?_
  refine thenP_n ?_
  refine SP_cond_f rfl ?_
  refine SP_skip ?_
  refine inBlockP_n ?_
  refine thenP_n ?_
  refine SP_seq ?_
  refine SP_region ?_
  refine SPL_y (y_build B53 rfl rfl (by simp only [fillL, List.foldl_cons, List.foldl_nil, List.set_cons_zero, List.set_cons_succ]; exact rfl)) rfl ?_
  refine SPL_one rfl (SP1_storeAll Tryz.sizeOf53 rfl rfl rfl rfl rfl (by first | exact U0 | exact U1 | exact U2 | exact U3 | exact U4 | exact U5 | exact U6 | exact U7 | exact U8 | exact U9 | exact U10 | exact U11 | exact U12 | exact U13 | exact U14 | exact U15 | exact U16 | exact U17 | exact U18 | exact U19 | exact U20 | exact U21 | exact U22 | exact U23) (by rfl) ?_)
  refine SPL_nil ?_
  refine thenP_n ?_
  refine SP_ret ?_
  refine bodyP_ret (H' := [blk rb 66 [pvp pb, pvp kb, pvp x], s0, sx, sp, sk, List.flatten [blk gb 37 [.pointer (some ⟨mb, 0, none⟩), .pointer (some ⟨mb2, 0, none⟩), .slice ca g.code.length cc, .slice aa g.args.length ac], s2, sc, sv], sm]) (ResC rfl rfl Tryz.isAgg53 Tryz.sizeOf53 rfl (by repeat (first | exact Cells.all _ | exact Cells.head rfl | apply Cells.tail))) (by repeat (first | exact Part.nil _ | (apply Part.cons; (first | exact P0 | exact P1 | exact P2 | exact P3 | exact P4 | exact P5 | exact P6 | exact P7 | exact P8 | exact P9 | exact P10 | exact P11 | exact P12 | exact P13 | exact P14 | exact P15 | exact P16 | exact P17 | exact P18 | exact P19 | exact P20 | exact P21 | exact P22 | exact P23)) | (apply Part.flat; simp only [List.cons_append, List.nil_append]) | (apply Part.nilc))) ?_
  exact ⟨[blk rb 66 [pvp pb, pvp kb, pvp x], s0, sx, sp, sk], rfl, rfl, pb, kb, x, fa, rv, s0, sx, sp, sk, E, R, rfl, hp, hk, hx, hn, hsx⟩

theorem tm_DoM_callO (rb pb kb x gb mb : Nat) (M : Mw) (fa : Option Addr) (rv : Value) (s0 sx sp sk : Seg) (E : RE) (R : RS) (hp : isPm pb fa M.P 0 sp) (hk : isMm kb M.mem sk) (hx : isR x (pvp pb) rv (pvp kb) E R s0) (hn : R.n = M.n) (hsx : isSrc rv M.src sx) (g : Rg) (s sm : Seg) (hg : isRegs gb mb g s sm) (o : Op1) (hkind : o.kind = 10) (hC : RC (⟨M.P.flat, M.src, o.b, decide (o.c = 0), o.t⟩ : RE) pb rv sp sx) (hoa : i64ok o.a) (hal : g.args.length ≤ 100) (hra : ∀ y, y ∈ g.args → i64ok y.v) (hps : ∀ t, t ∈ (M.P.flat.sig o.a).1 → t = 105 ∨ t = 108) (ho : owed M.P.flat o.a g.args ≠ 0) : Spec Tryz.prog 25 [pvp rb, .pointer (some ⟨gb, 0, none⟩), .agg (opV o).toArray] [blk rb 66 [pvp pb, pvp kb, pvp x], s0, sx, sp, sk, s, sm] (Ret fun v H => ∃ HM, v = .agg (ansV ⟨owed M.P.flat o.a g.args, 0, 0, [124]⟩).toArray ∧ H = HM ++ [s, sm] ∧ isMow rb { M with n := 0 } HM) := by
  have hg0 := hg
  obtain ⟨mb2, ca, cc, aa, ac, s2, sc, sv, rfl, hm1, hm2, hcd, hav⟩ := hg
  obtain ⟨ok, oa, ob, oc, os, ot⟩ := o
  dsimp only at hkind
  refine Spec_openAt [blk gb 37 [.pointer (some ⟨mb, 0, none⟩), .pointer (some ⟨mb2, 0, none⟩), .slice ca g.code.length cc, .slice aa g.args.length ac], s2, sc, sv] (by first | exact P0 | exact P1 | exact P2 | exact P3 | exact P4 | exact P5 | exact P6 | exact P7 | exact P8 | exact P9 | exact P10 | exact P11 | exact P12 | exact P13 | exact P14 | exact P15 | exact P16 | exact P17 | exact P18 | exact P19 | exact P20 | exact P21 | exact P22 | exact P23) ?_
  simp only [List.cons_append, List.nil_append, opV]
  refine Spec_enter Tryz.func25 rfl Tryz.ntmps25 rfl ?_
  show SP _ _ _ _ _ [(0, _), (1, _), (2, _)] _
  refine SP_seq ?_
  refine SP_region ?_
  refine SPL_one rfl (SP1_box rfl rfl rfl ?_)
  intro b5
  refine SPL_one rfl (SP1_alloc Tryz.zeroValue53 rfl rfl ?_)
  intro b6
  refine SPL_nil ?_
  refine thenP_n ?_
  refine SP_seq ?_
  refine SP_seq ?_
  refine SP_region ?_
  refine SPL_y (y_fa fld_43_0 rfl) rfl ?_
  refine SPL_y (y_load Tryz.isAgg3 rfl (by repeat (first | exact Cell.head rfl | apply Cell.tail))) rfl ?_
  refine SPL_nil ?_
  refine thenP_n ?_
  refine SP_block ?_
  refine SP_seq ?_
  refine SP_region ?_
  refine SPL_y (y_eqlF rfl rfl (by omega)) rfl ?_
  refine SPL_y (y_assign rfl) rfl ?_
  refine SPL_nil ?_
  refine thenP_n ?_
  refine SP_cond_f rfl ?_
  refine SP_seq ?_
  refine SP_region ?_
  refine SPL_y (y_eqlT rfl rfl hkind) rfl ?_
  refine SPL_y (y_assign rfl) rfl ?_
  refine SPL_nil ?_
  refine thenP_n ?_
  refine SP_cond_t rfl ?_
  refine SP_seq ?_
  refine SP_part (H' := [[], blk b5 43 [I ok, I oa, I ob, I oc, S os, S ot], blk b6 53 [I 0, I 0, I 0, S []], blk rb 66 [pvp pb, pvp kb, pvp x], s0, sx, sp, sk, blk gb 37 [.pointer (some ⟨mb, 0, none⟩), .pointer (some ⟨mb2, 0, none⟩), .slice ca g.code.length cc, .slice aa g.args.length ac], s2, sc, sv, sm]) (by repeat (first | exact Part.nil _ | (apply Part.cons; (first | exact P0 | exact P1 | exact P2 | exact P3 | exact P4 | exact P5 | exact P6 | exact P7 | exact P8 | exact P9 | exact P10 | exact P11 | exact P12 | exact P13 | exact P14 | exact P15 | exact P16 | exact P17 | exact P18 | exact P19 | exact P20 | exact P21 | exact P22 | exact P23)) | (apply Part.flat; simp only [List.cons_append, List.nil_append]) | (apply Part.nilc))) ?_
  refine SP_draw 10 [(0, 0), (1, 0), (2, 0), (4, 0), (5, 0), (6, 0), (3, 1), (7, 1), (9, 1), (8, 2), (10, 3), (11, 3)] mixed (by kernel_rfl) (fun _ _ _ _ _ h => h) (Part.refl _) ?_
  refine SPO_p rfl (y_move rfl) rfl ?_
  refine SPO_p rfl (y_nil rfl) rfl ?_
  refine SPO_p rfl (y_fa fld_66_2 rfl) rfl ?_
  refine SPO_p rfl (y_move rfl) rfl ?_
  refine SPO_p rfl (y_nil rfl) rfl ?_
  refine SPO_p rfl (y_fa fld_37_3 rfl) rfl ?_
  refine SPO_h rfl (y_load Tryz.isAgg64 rfl (by repeat (first | exact Cell.head rfl | apply Cell.tail))) rfl ?_
  refine SPO_h rfl (y_load Tryz.isAgg35 rfl (by repeat (first | exact Cell.head rfl | apply Cell.tail))) rfl ?_
  refine SPO_h rfl (y_loads Tryz.isAgg43 Tryz.sizeOf43 rfl rfl (by repeat (first | exact Cells.all _ | exact Cells.head rfl | apply Cells.tail))) rfl ?_
  refine SPO_a rfl rfl (SP1_append el_35 (.inl Tryz.underlying35) rfl rfl (⟨rfl, .inl ⟨rfl, rfl, rfl, rfl⟩⟩ : Arr 110 2 none 0 0 [] []) (by first | exact P0 | exact P1 | exact P2 | exact P3 | exact P4 | exact P5 | exact P6 | exact P7 | exact P8 | exact P9 | exact P10 | exact P11 | exact P12 | exact P13 | exact P14 | exact P15 | exact P16 | exact P17 | exact P18 | exact P19 | exact P20 | exact P21 | exact P22 | exact P23) (Arr.src hav (fun p hp => List.mem_flatten.2 ⟨sv, by simp, hp⟩)) (vals_one _) (by omega) rfl ?_)
  intro va2 vc2 sa2 hAr
  refine ⟨⟨_, (by repeat (first | exact Part.nil _ | (apply Part.cons; (first | exact P0 | exact P1 | exact P2 | exact P3 | exact P4 | exact P5 | exact P6 | exact P7 | exact P8 | exact P9 | exact P10 | exact P11 | exact P12 | exact P13 | exact P14 | exact P15 | exact P16 | exact P17 | exact P18 | exact P19 | exact P20 | exact P21 | exact P22 | exact P23)) | (apply Part.flat; simp only [List.cons_append, List.nil_append]) | (apply Part.nilc)))⟩, ?_⟩
  have hAr2 : Arr 110 2 va2 g.args.length vc2 (g.args.flatMap valV) sa2 := by simpa using hAr
  rw [Nat.zero_add]
  refine SPO_z (k := 0) rfl rfl (SP1_call (law_DoMO x pb kb M rv E R s0 hx sp sx sk (⟨ok, oa, ob, oc, os, ot⟩ : Op1) hC hk hoa hkind va2 vc2 g.args sa2 hAr2 hra hps ho) Tryz.call47 rfl rfl (by repeat (first | exact Part.nil _ | (apply Part.cons; (first | exact P0 | exact P1 | exact P2 | exact P3 | exact P4 | exact P5 | exact P6 | exact P7 | exact P8 | exact P9 | exact P10 | exact P11 | exact P12 | exact P13 | exact P14 | exact P15 | exact P16 | exact P17 | exact P18 | exact P19 | exact P20 | exact P21 | exact P22 | exact P23)) | (apply Part.flat; simp only [List.cons_append, List.nil_append]) | (apply Part.nilc))) ?_)
  rintro v post H' ⟨s1, st', rfl, rfl, hx1⟩ hH
  try simp only [List.cons_append, List.nil_append] at hH
  subst hH
  refine SPO_z (k := 0) rfl rfl (SP1_storeAll Tryz.sizeOf53 rfl rfl rfl rfl rfl (by first | exact U0 | exact U1 | exact U2 | exact U3 | exact U4 | exact U5 | exact U6 | exact U7 | exact U8 | exact U9 | exact U10 | exact U11 | exact U12 | exact U13 | exact U14 | exact U15 | exact U16 | exact U17 | exact U18 | exact U19 | exact U20 | exact U21 | exact U22 | exact U23) (by rfl) ?_)
  refine SPO_nil ?_
  refine thenP_n ?_
  refine SP_ret ?_
  refine inBlockP_ret (thenP_ret (bodyP_ret (H' := [blk rb 66 [pvp pb, pvp kb, pvp x], s1, sx, sp, sk, List.flatten [blk gb 37 [.pointer (some ⟨mb, 0, none⟩), .pointer (some ⟨mb2, 0, none⟩), .slice ca g.code.length cc, .slice aa g.args.length ac], s2, sc, sv], sm]) (ResC rfl rfl Tryz.isAgg53 Tryz.sizeOf53 rfl (by repeat (first | exact Cells.all _ | exact Cells.head rfl | apply Cells.tail))) (by repeat (first | exact Part.nil _ | (apply Part.cons; (first | exact P0 | exact P1 | exact P2 | exact P3 | exact P4 | exact P5 | exact P6 | exact P7 | exact P8 | exact P9 | exact P10 | exact P11 | exact P12 | exact P13 | exact P14 | exact P15 | exact P16 | exact P17 | exact P18 | exact P19 | exact P20 | exact P21 | exact P22 | exact P23)) | (apply Part.flat; simp only [List.cons_append, List.nil_append]) | (apply Part.nilc))) ?_))
  exact ⟨[blk rb 66 [pvp pb, pvp kb, pvp x], s1, sx, sp, sk], rfl, rfl, pb, kb, x, fa, rv, s1, sx, sp, sk, _, _, rfl, hp, hk, hx1, rfl, hsx⟩

theorem tm_DoM_callR (rb pb kb x gb mb : Nat) (M : Mw) (fa : Option Addr) (rv : Value) (s0 sx sp sk : Seg) (E : RE) (R : RS) (hp : isPm pb fa M.P 0 sp) (hk : isMm kb M.mem sk) (hx : isR x (pvp pb) rv (pvp kb) E R s0) (hn : R.n = M.n) (hsx : isSrc rv M.src sx) (g : Rg) (s sm : Seg) (hg : isRegs gb mb g s sm) (o : Op1) (hkind : o.kind = 10) (hC : RC (⟨M.P.flat, M.src, o.b, decide (o.c = 0), o.t⟩ : RE) pb rv sp sx) (hoa : i64ok o.a) (hal : g.args.length ≤ 100) (hra : ∀ y, y ∈ g.args → i64ok y.v) (hps : ∀ t, t ∈ (M.P.flat.sig o.a).1 → t = 105 ∨ t = 108) (ho : owed M.P.flat o.a g.args = 0) (n : Nat) (r : Int × RS) (hinv : invP (⟨M.P.flat, M.src, o.b, decide (o.c = 0), o.t⟩ : RE) (runM (⟨M.P.flat, M.src, o.b, decide (o.c = 0), o.t⟩ : RE) n) (RS.begin g.args M.mem) o.a 1 = some r) (hrl : (if r.1 = 0 then r.2.st else []).length ≤ 1000000) (hrv : ∀ y, y ∈ (if r.1 = 0 then r.2.st else []) → -9223372036854775808 ≤ y.n ∧ y.n ≤ 9223372036854775807) (htr : r.2.trace.length ≤ 1000000) : Spec Tryz.prog 25 [pvp rb, .pointer (some ⟨gb, 0, none⟩), .agg (opV o).toArray] [blk rb 66 [pvp pb, pvp kb, pvp x], s0, sx, sp, sk, s, sm] (Ret fun v H => ∃ HM, v = .agg (ansV ⟨r.1, r.2.used, (if r.1 = 0 then r.2.st else []).length, valsS ((if r.1 = 0 then r.2.st else []).map W.val) ++ [124] ++ r.2.trace⟩).toArray ∧ H = HM ++ [s, sm] ∧ isMow rb { M with n := r.2.n, mem := r.2.mem } HM) := by
  have hg0 := hg
  obtain ⟨mb2, ca, cc, aa, ac, s2, sc, sv, rfl, hm1, hm2, hcd, hav⟩ := hg
  obtain ⟨ok, oa, ob, oc, os, ot⟩ := o
  dsimp only at hkind
  refine Spec_openAt [blk gb 37 [.pointer (some ⟨mb, 0, none⟩), .pointer (some ⟨mb2, 0, none⟩), .slice ca g.code.length cc, .slice aa g.args.length ac], s2, sc, sv] (by first | exact P0 | exact P1 | exact P2 | exact P3 | exact P4 | exact P5 | exact P6 | exact P7 | exact P8 | exact P9 | exact P10 | exact P11 | exact P12 | exact P13 | exact P14 | exact P15 | exact P16 | exact P17 | exact P18 | exact P19 | exact P20 | exact P21 | exact P22 | exact P23) ?_
  simp only [List.cons_append, List.nil_append, opV]
  refine Spec_enter Tryz.func25 rfl Tryz.ntmps25 rfl ?_
  show SP _ _ _ _ _ [(0, _), (1, _), (2, _)] _
  refine SP_seq ?_
  refine SP_region ?_
  refine SPL_one rfl (SP1_box rfl rfl rfl ?_)
  intro b5
  refine SPL_one rfl (SP1_alloc Tryz.zeroValue53 rfl rfl ?_)
  intro b6
  refine SPL_nil ?_
  refine thenP_n ?_
  refine SP_seq ?_
  refine SP_seq ?_
  refine SP_region ?_
  refine SPL_y (y_fa fld_43_0 rfl) rfl ?_
  refine SPL_y (y_load Tryz.isAgg3 rfl (by repeat (first | exact Cell.head rfl | apply Cell.tail))) rfl ?_
  refine SPL_nil ?_
  refine thenP_n ?_
  refine SP_block ?_
  refine SP_seq ?_
  refine SP_region ?_
  refine SPL_y (y_eqlF rfl rfl (by omega)) rfl ?_
  refine SPL_y (y_assign rfl) rfl ?_
  refine SPL_nil ?_
  refine thenP_n ?_
  refine SP_cond_f rfl ?_
  refine SP_seq ?_
  refine SP_region ?_
  refine SPL_y (y_eqlT rfl rfl hkind) rfl ?_
  refine SPL_y (y_assign rfl) rfl ?_
  refine SPL_nil ?_
  refine thenP_n ?_
  refine SP_cond_t rfl ?_
  refine SP_seq ?_
  refine SP_part (H' := [[], blk b5 43 [I ok, I oa, I ob, I oc, S os, S ot], blk b6 53 [I 0, I 0, I 0, S []], blk rb 66 [pvp pb, pvp kb, pvp x], s0, sx, sp, sk, blk gb 37 [.pointer (some ⟨mb, 0, none⟩), .pointer (some ⟨mb2, 0, none⟩), .slice ca g.code.length cc, .slice aa g.args.length ac], s2, sc, sv, sm]) (by repeat (first | exact Part.nil _ | (apply Part.cons; (first | exact P0 | exact P1 | exact P2 | exact P3 | exact P4 | exact P5 | exact P6 | exact P7 | exact P8 | exact P9 | exact P10 | exact P11 | exact P12 | exact P13 | exact P14 | exact P15 | exact P16 | exact P17 | exact P18 | exact P19 | exact P20 | exact P21 | exact P22 | exact P23)) | (apply Part.flat; simp only [List.cons_append, List.nil_append]) | (apply Part.nilc))) ?_
  refine SP_draw 10 [(0, 0), (1, 0), (2, 0), (4, 0), (5, 0), (6, 0), (3, 1), (7, 1), (9, 1), (8, 2), (10, 3), (11, 3)] mixed (by kernel_rfl) (fun _ _ _ _ _ h => h) (Part.refl _) ?_
  refine SPO_p rfl (y_move rfl) rfl ?_
  refine SPO_p rfl (y_nil rfl) rfl ?_
  refine SPO_p rfl (y_fa fld_66_2 rfl) rfl ?_
  refine SPO_p rfl (y_move rfl) rfl ?_
  refine SPO_p rfl (y_nil rfl) rfl ?_
  refine SPO_p rfl (y_fa fld_37_3 rfl) rfl ?_
  refine SPO_h rfl (y_load Tryz.isAgg64 rfl (by repeat (first | exact Cell.head rfl | apply Cell.tail))) rfl ?_
  refine SPO_h rfl (y_load Tryz.isAgg35 rfl (by repeat (first | exact Cell.head rfl | apply Cell.tail))) rfl ?_
  refine SPO_h rfl (y_loads Tryz.isAgg43 Tryz.sizeOf43 rfl rfl (by repeat (first | exact Cells.all _ | exact Cells.head rfl | apply Cells.tail))) rfl ?_
  refine SPO_a rfl rfl (SP1_append el_35 (.inl Tryz.underlying35) rfl rfl (⟨rfl, .inl ⟨rfl, rfl, rfl, rfl⟩⟩ : Arr 110 2 none 0 0 [] []) (by first | exact P0 | exact P1 | exact P2 | exact P3 | exact P4 | exact P5 | exact P6 | exact P7 | exact P8 | exact P9 | exact P10 | exact P11 | exact P12 | exact P13 | exact P14 | exact P15 | exact P16 | exact P17 | exact P18 | exact P19 | exact P20 | exact P21 | exact P22 | exact P23) (Arr.src hav (fun p hp => List.mem_flatten.2 ⟨sv, by simp, hp⟩)) (vals_one _) (by omega) rfl ?_)
  intro va2 vc2 sa2 hAr
  refine ⟨⟨_, (by repeat (first | exact Part.nil _ | (apply Part.cons; (first | exact P0 | exact P1 | exact P2 | exact P3 | exact P4 | exact P5 | exact P6 | exact P7 | exact P8 | exact P9 | exact P10 | exact P11 | exact P12 | exact P13 | exact P14 | exact P15 | exact P16 | exact P17 | exact P18 | exact P19 | exact P20 | exact P21 | exact P22 | exact P23)) | (apply Part.flat; simp only [List.cons_append, List.nil_append]) | (apply Part.nilc)))⟩, ?_⟩
  have hAr2 : Arr 110 2 va2 g.args.length vc2 (g.args.flatMap valV) sa2 := by simpa using hAr
  rw [Nat.zero_add]
  refine SPO_z (k := 0) rfl rfl (SP1_call (law_DoMR x pb kb M rv E R s0 hx sp sx sk (⟨ok, oa, ob, oc, os, ot⟩ : Op1) hC hk hoa hkind va2 vc2 g.args sa2 hAr2 hra hps ho n r hinv hrl hrv htr) Tryz.call47 rfl rfl (by repeat (first | exact Part.nil _ | (apply Part.cons; (first | exact P0 | exact P1 | exact P2 | exact P3 | exact P4 | exact P5 | exact P6 | exact P7 | exact P8 | exact P9 | exact P10 | exact P11 | exact P12 | exact P13 | exact P14 | exact P15 | exact P16 | exact P17 | exact P18 | exact P19 | exact P20 | exact P21 | exact P22 | exact P23)) | (apply Part.flat; simp only [List.cons_append, List.nil_append]) | (apply Part.nilc))) ?_)
  rintro v post H' ⟨s1, sk1, rfl, rfl, hx1, hk1⟩ hH
  try simp only [List.cons_append, List.nil_append] at hH
  subst hH
  refine SPO_z (k := 0) rfl rfl (SP1_storeAll Tryz.sizeOf53 rfl rfl rfl rfl rfl (by first | exact U0 | exact U1 | exact U2 | exact U3 | exact U4 | exact U5 | exact U6 | exact U7 | exact U8 | exact U9 | exact U10 | exact U11 | exact U12 | exact U13 | exact U14 | exact U15 | exact U16 | exact U17 | exact U18 | exact U19 | exact U20 | exact U21 | exact U22 | exact U23) (by rfl) ?_)
  refine SPO_nil ?_
  refine thenP_n ?_
  refine SP_ret ?_
  refine inBlockP_ret (thenP_ret (bodyP_ret (H' := [blk rb 66 [pvp pb, pvp kb, pvp x], s1, sx, sp, sk1, List.flatten [blk gb 37 [.pointer (some ⟨mb, 0, none⟩), .pointer (some ⟨mb2, 0, none⟩), .slice ca g.code.length cc, .slice aa g.args.length ac], s2, sc, sv], sm]) (ResC rfl rfl Tryz.isAgg53 Tryz.sizeOf53 rfl (by repeat (first | exact Cells.all _ | exact Cells.head rfl | apply Cells.tail))) (by repeat (first | exact Part.nil _ | (apply Part.cons; (first | exact P0 | exact P1 | exact P2 | exact P3 | exact P4 | exact P5 | exact P6 | exact P7 | exact P8 | exact P9 | exact P10 | exact P11 | exact P12 | exact P13 | exact P14 | exact P15 | exact P16 | exact P17 | exact P18 | exact P19 | exact P20 | exact P21 | exact P22 | exact P23)) | (apply Part.flat; simp only [List.cons_append, List.nil_append]) | (apply Part.nilc))) ?_))
  exact ⟨[blk rb 66 [pvp pb, pvp kb, pvp x], s1, sx, sp, sk1], rfl, rfl, pb, kb, x, fa, rv, s1, sx, sp, sk1, _, _, rfl, hp, hk1, hx1, rfl, hsx⟩

end Go.Sl
