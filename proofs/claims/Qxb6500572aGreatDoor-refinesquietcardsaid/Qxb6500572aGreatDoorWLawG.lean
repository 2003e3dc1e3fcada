/- Walks: towerlaw.Do, its answers (made by program out of short notes) -/
import Derived.Test.Qxb6500572aGreatDoorWCheck
import Derived.Test.Qxb6500572aGreatDoorWLawF
namespace Go.Sl
open Go Go.Wl Go.Proofs
set_option maxRecDepth 100000
set_option linter.unusedVariables false
set_option linter.unusedSimpArgs false
/-- What a step does to the tower, and what it answers. -/
def DoX (L : Plain) (T : Tw) (g : Rg) (o : Op1) (T' : Tw) (a : Ans) : Prop :=
  (o.kind = 8 ∧ (((loadM g.m).2.2.2 = 0 ∧ T' = ⟨(loadM g.m).1, 0, mem0 g.m, 0⟩ ∧ a = ⟨0, 0, 0, []⟩) ∨ ((loadM g.m).2.2.2 ≠ 0 ∧ T' = T ∧ a = ⟨(loadM g.m).2.2.2, (loadM g.m).2.1, (loadM g.m).2.2.1, []⟩))) ∨
  (o.kind = 10 ∧ ∃ r, CallP (L.Gd T.P T.mem o g.args) o.b T.P 0 T.mem (host0 o) o.a g.args r ∧ a = ansOf r ∧ T' = ⟨r.P, r.steps, r.mem, r.high⟩) ∨
  (o.kind = 11 ∧ T' = T ∧ a = ⟨0, 0, 0, showProg T.P ++ [124] ++ showMem T.mem⟩) ∨ (o.kind = 12 ∧ T' = T ∧ a = ⟨0, 0, 1, []⟩) ∨
  (o.kind ≠ 8 ∧ o.kind ≠ 10 ∧ o.kind ≠ 11 ∧ o.kind ≠ 12 ∧ T' = T ∧ a = ⟨0, 0, 0, []⟩)

theorem law_CheckT (rb tb pb kb x : Nat) (pfa : Option Addr) (P : Prog) (steps : Int) (mem : Mem) (high : Int) (sp sk : Seg) (hp : isProg pb pfa P steps sp) (hk : isMach kb mem sk) (hB : ProgB P) (hK : CheckOk P) : Spec Tryz.prog 29 [.pointer (some ⟨rb, 0, none⟩)] [blk rb 30 [.pointer (some ⟨tb, 0, none⟩)], blk tb 49 [(.pointer (some ⟨pb, 0, none⟩)), (.pointer (some ⟨kb, 0, none⟩)), .pointer (some ⟨x, 0, none⟩)], blk x 93 [(.pointer (some ⟨pb, 0, none⟩)), (.pointer (some ⟨kb, 0, none⟩)), .slice none 0 0, .slice none 0 0, I 0, I high], sp, sk] (Ret fun v H => v = .bool true ∧ H = [blk rb 30 [.pointer (some ⟨tb, 0, none⟩)], blk tb 49 [(.pointer (some ⟨pb, 0, none⟩)), (.pointer (some ⟨kb, 0, none⟩)), .pointer (some ⟨x, 0, none⟩)], blk x 93 [(.pointer (some ⟨pb, 0, none⟩)), (.pointer (some ⟨kb, 0, none⟩)), .slice none 0 0, .slice none 0 0, I 0, I high], sp, sk]) := by
  refine Spec_enter Tryz.func29 rfl Tryz.ntmps29 rfl ?_
  show SP _ _ _ _ _ [(0, _)] _
  refine SP_seq ?_
  refine SP_region ?_
  refine SPL_y (y_assign rfl) rfl ?_
  refine SPL_nil ?_
  refine thenP_n ?_
  refine SP_seq ?_
  refine SP_seq ?_
  refine SP_region ?_
  refine SPL_y (y_move rfl) rfl ?_
  refine SPL_y (y_nil rfl) rfl ?_
  refine SPL_y (y_fa fld_30_0 rfl) rfl ?_
  refine SPL_y (y_load Tryz.isAgg28 rfl (by repeat (first | exact Cell.head rfl | apply Cell.tail))) rfl ?_
  refine SPL_y (y_nil rfl) rfl ?_
  refine SPL_y (y_fa fld_49_0 rfl) rfl ?_
  refine SPL_y (y_load Tryz.isAgg45 rfl (by repeat (first | exact Cell.head rfl | apply Cell.tail))) rfl ?_
  refine SPL_one rfl (SP1_call (prep_CheckT pb pfa P steps sp hp hB hK) Tryz.call51 rfl rfl (by repeat (first | exact Part.nil _ | (apply Part.cons; (first | exact P0 | exact P1 | exact P2 | exact P3 | exact P4 | exact P5 | exact P6 | exact P7 | exact P8 | exact P9 | exact P10 | exact P11 | exact P12 | exact P13 | exact P14 | exact P15 | exact P16 | exact P17 | exact P18 | exact P19 | exact P20 | exact P21 | exact P22 | exact P23)) | (apply Part.flat; simp only [List.cons_append, List.nil_append]) | (apply Part.nilc))) ?_)
  rintro v post H' ⟨rfl, rfl⟩ hH
  try simp only [List.cons_append, List.nil_append] at hH
  subst hH
  refine SPL_y (y_not_t rfl) rfl ?_
  refine SPL_nil ?_
  refine thenP_n ?_
  refine SP_cond_f rfl ?_
  refine SP_skip ?_
  refine thenP_n ?_
  refine SP_seq ?_
  refine SP_seq ?_
  refine SP_region ?_
  refine SPL_y (y_move rfl) rfl ?_
  refine SPL_y (y_nil rfl) rfl ?_
  refine SPL_y (y_fa fld_30_0 rfl) rfl ?_
  refine SPL_y (y_load Tryz.isAgg28 rfl (by repeat (first | exact Cell.head rfl | apply Cell.tail))) rfl ?_
  refine SPL_y (y_nil rfl) rfl ?_
  refine SPL_y (y_fa fld_49_1 rfl) rfl ?_
  refine SPL_y (y_load Tryz.isAgg46 rfl (by repeat (first | exact Cell.head rfl | apply Cell.tail))) rfl ?_
  refine SPL_one rfl (SP1_call (mach_Check kb mem sk hk) Tryz.call52 rfl rfl (by repeat (first | exact Part.nil _ | (apply Part.cons; (first | exact P0 | exact P1 | exact P2 | exact P3 | exact P4 | exact P5 | exact P6 | exact P7 | exact P8 | exact P9 | exact P10 | exact P11 | exact P12 | exact P13 | exact P14 | exact P15 | exact P16 | exact P17 | exact P18 | exact P19 | exact P20 | exact P21 | exact P22 | exact P23)) | (apply Part.flat; simp only [List.cons_append, List.nil_append]) | (apply Part.nilc))) ?_)
  rintro v post H' ⟨rfl, rfl⟩ hH
  try simp only [List.cons_append, List.nil_append] at hH
  subst hH
  refine SPL_y (y_not_t rfl) rfl ?_
  refine SPL_nil ?_
  refine thenP_n ?_
  refine SP_cond_f rfl ?_
  refine SP_skip ?_
  refine thenP_n ?_
  refine SP_seq ?_
  refine SP_region ?_
  refine SPL_y (y_move rfl) rfl ?_
  refine SPL_y (y_nil rfl) rfl ?_
  refine SPL_y (y_fa fld_30_0 rfl) rfl ?_
  refine SPL_y (y_load Tryz.isAgg28 rfl (by repeat (first | exact Cell.head rfl | apply Cell.tail))) rfl ?_
  refine SPL_y (y_nil rfl) rfl ?_
  refine SPL_y (y_fa fld_49_2 rfl) rfl ?_
  refine SPL_y (y_load Tryz.isAgg47 rfl (by repeat (first | exact Cell.head rfl | apply Cell.tail))) rfl ?_
  refine SPL_one rfl (SP1_call (run_Check x pb kb high) Tryz.call53 rfl rfl (by repeat (first | exact Part.nil _ | (apply Part.cons; (first | exact P0 | exact P1 | exact P2 | exact P3 | exact P4 | exact P5 | exact P6 | exact P7 | exact P8 | exact P9 | exact P10 | exact P11 | exact P12 | exact P13 | exact P14 | exact P15 | exact P16 | exact P17 | exact P18 | exact P19 | exact P20 | exact P21 | exact P22 | exact P23)) | (apply Part.flat; simp only [List.cons_append, List.nil_append]) | (apply Part.nilc))) ?_)
  rintro v post H' ⟨rfl, rfl⟩ hH
  try simp only [List.cons_append, List.nil_append] at hH
  subst hH
  refine SPL_y (y_assign rfl) rfl ?_
  refine SPL_nil ?_
  refine thenP_n ?_
  refine SP_ret ?_
  refine bodyP_ret (H' := [blk rb 30 [.pointer (some ⟨tb, 0, none⟩)], blk tb 49 [(.pointer (some ⟨pb, 0, none⟩)), (.pointer (some ⟨kb, 0, none⟩)), .pointer (some ⟨x, 0, none⟩)], blk x 93 [(.pointer (some ⟨pb, 0, none⟩)), (.pointer (some ⟨kb, 0, none⟩)), .slice none 0 0, .slice none 0 0, I 0, I high], sp, sk]) (Res1 rfl rfl) (by repeat (first | exact Part.nil _ | (apply Part.cons; (first | exact P0 | exact P1 | exact P2 | exact P3 | exact P4 | exact P5 | exact P6 | exact P7 | exact P8 | exact P9 | exact P10 | exact P11 | exact P12 | exact P13 | exact P14 | exact P15 | exact P16 | exact P17 | exact P18 | exact P19 | exact P20 | exact P21 | exact P22 | exact P23)) | (apply Part.flat; simp only [List.cons_append, List.nil_append]) | (apply Part.nilc))) ?_
  exact ⟨rfl, rfl⟩

theorem tow_DoX_loadok (rb tb pb kb x gb mb : Nat) (pfa : Option Addr) (L : Plain) (T : Tw) (hst : T.steps = 0) (sp sk : Seg) (hp : isProg pb pfa T.P T.steps sp) (hk : isMach kb T.mem sk) (g : Rg) (s sm : Seg) (hg : isRegs gb mb g s sm) (o : Op1) (hT : L.TOk T.P T.mem) (hO : OpOk o) (hA : ∀ y, y ∈ g.args → i64ok y.v) (ok0 : ModOk g.m) (hal : g.args.length ≤ 100) (gs : Seg) (hgs : isG gs) (hkind : o.kind = 8) (he : (loadM g.m).2.2.2 = 0) : Spec Tryz.prog 15 [.pointer (some ⟨rb, 0, none⟩), .pointer (some ⟨gb, 0, none⟩), .agg (opV o).toArray] [blk rb 30 [.pointer (some ⟨tb, 0, none⟩)], blk tb 49 [(.pointer (some ⟨pb, 0, none⟩)), (.pointer (some ⟨kb, 0, none⟩)), .pointer (some ⟨x, 0, none⟩)], blk x 93 [(.pointer (some ⟨pb, 0, none⟩)), (.pointer (some ⟨kb, 0, none⟩)), .slice none 0 0, .slice none 0 0, I 0, I T.high], sp, sk, s, sm, gs] (Ret fun v H => ∃ a T' HT, DoX L T g o T' a ∧ v = .agg (ansV a).toArray ∧ H = HT ++ [s, sm, gs] ∧ isTow rb T' HT) := by
  have hg0 := hg
  obtain ⟨mb2, ca, cc, aa, ac, s2, sc, sv, rfl, hm1, hm2, hcd, hav⟩ := hg
  obtain ⟨ok, oa, ob, oc, os, ot⟩ := o
  dsimp only at hkind
  refine Spec_openAt [blk gb 37 [.pointer (some ⟨mb, 0, none⟩), .pointer (some ⟨mb2, 0, none⟩), .slice ca g.code.length cc, .slice aa g.args.length ac], s2, sc, sv] (by first | exact P0 | exact P1 | exact P2 | exact P3 | exact P4 | exact P5 | exact P6 | exact P7 | exact P8 | exact P9 | exact P10 | exact P11 | exact P12 | exact P13 | exact P14 | exact P15 | exact P16 | exact P17 | exact P18 | exact P19 | exact P20 | exact P21 | exact P22 | exact P23) ?_
  simp only [List.cons_append, List.nil_append, opV]
  refine Spec_enter Tryz.func15 rfl Tryz.ntmps15 rfl ?_
  show SP _ _ _ _ _ [(0, _), (1, _), (2, _)] _
  refine SP_seq ?_
  refine SP_region ?_
  refine SPL_one rfl (SP1_box rfl rfl rfl ?_)
  intro b5
  refine SPL_one rfl (SP1_alloc Tryz.zeroValue53 rfl rfl ?_)
  intro b6
  refine SPL_nil ?_
  refine thenP_n ?_
  refine SP_seq ?_
  refine SP_seq ?_
  refine SP_region ?_
  refine SPL_y (y_fa fld_43_0 rfl) rfl ?_
  refine SPL_y (y_load Tryz.isAgg3 rfl (by repeat (first | exact Cell.head rfl | apply Cell.tail))) rfl ?_
  refine SPL_nil ?_
  refine thenP_n ?_
  refine SP_block ?_
  refine SP_seq ?_
  refine SP_region ?_
  refine SPL_y (y_eqlT rfl rfl hkind) rfl ?_
  refine SPL_y (y_assign rfl) rfl ?_
  refine SPL_nil ?_
  refine thenP_n ?_
  refine SP_cond_t rfl ?_
  refine SP_seq ?_
  refine SP_region ?_
  refine SPL_y (y_move rfl) rfl ?_
  refine SPL_y (y_nil rfl) rfl ?_
  refine SPL_y (y_fa fld_37_0 rfl) rfl ?_
  refine SPL_y (y_load Tryz.isAgg32 rfl (by repeat (first | exact Cell.head rfl | apply Cell.tail))) rfl ?_
  refine SPL_one rfl (SP1_call (link_ok mb g.m sm hm1 ok0 he) Tryz.call11 rfl rfl (by repeat (first | exact Part.nil _ | (apply Part.cons; (first | exact P0 | exact P1 | exact P2 | exact P3 | exact P4 | exact P5 | exact P6 | exact P7 | exact P8 | exact P9 | exact P10 | exact P11 | exact P12 | exact P13 | exact P14 | exact P15 | exact P16 | exact P17 | exact P18 | exact P19 | exact P20 | exact P21 | exact P22 | exact P23)) | (apply Part.flat; simp only [List.cons_append, List.nil_append]) | (apply Part.nilc))) ?_)
  rintro v post H' ⟨tb2, pb2, kb2, x2, pfa2, sp2, sk2, rfl, rfl, hp2, hk2⟩ hH
  try simp only [List.cons_append, List.nil_append] at hH
  subst hH
  refine SPL_y (y_move rfl) rfl ?_
  refine SPL_y (y_ext rfl rfl) rfl ?_
  refine SPL_y (y_ext rfl rfl) rfl ?_
  refine SPL_y (y_assign rfl) rfl ?_
  refine SPL_y (y_assign rfl) rfl ?_
  refine SPL_nil ?_
  refine thenP_n ?_
  refine SP_seq ?_
  refine SP_seq ?_
  refine SP_region ?_
  refine SPL_y (y_move rfl) rfl ?_
  refine SPL_y (y_ieq_nil (c := true) Tryz.underlying39 rfl rfl) rfl ?_
  refine SPL_nil ?_
  refine thenP_n ?_
  refine SP_cond_t rfl ?_
  refine SP_region ?_
  refine SPL_y (y_move rfl) rfl ?_
  refine SPL_y (y_move rfl) rfl ?_
  refine SPL_y (y_nil rfl) rfl ?_
  refine SPL_y (y_fa fld_30_0 rfl) rfl ?_
  refine SPL_one rfl (SP1_store Tryz.sizeOf28 rfl rfl rfl (by first | exact U0 | exact U1 | exact U2 | exact U3 | exact U4 | exact U5 | exact U6 | exact U7 | exact U8 | exact U9 | exact U10 | exact U11 | exact U12 | exact U13 | exact U14 | exact U15 | exact U16 | exact U17 | exact U18 | exact U19 | exact U20 | exact U21 | exact U22 | exact U23) (by rfl) ?_)
  refine SPL_nil ?_
  refine thenP_n ?_
  refine SP_seq ?_
  refine SP_region ?_
  refine SPL_y (y_move rfl) rfl ?_
  refine SPL_one rfl (SP1_call (fault_nil) Tryz.call39 rfl rfl (by repeat (first | exact Part.nil _ | (apply Part.cons; (first | exact P0 | exact P1 | exact P2 | exact P3 | exact P4 | exact P5 | exact P6 | exact P7 | exact P8 | exact P9 | exact P10 | exact P11 | exact P12 | exact P13 | exact P14 | exact P15 | exact P16 | exact P17 | exact P18 | exact P19 | exact P20 | exact P21 | exact P22 | exact P23)) | (apply Part.flat; simp only [List.cons_append, List.nil_append]) | (apply Part.nilc))) ?_)
  rintro v post H' ⟨rfl, rfl⟩ hH
  try simp only [List.cons_append, List.nil_append] at hH
  subst hH
  refine SPL_one rfl (SP1_storeAll Tryz.sizeOf53 rfl rfl rfl rfl rfl (by first | exact U0 | exact U1 | exact U2 | exact U3 | exact U4 | exact U5 | exact U6 | exact U7 | exact U8 | exact U9 | exact U10 | exact U11 | exact U12 | exact U13 | exact U14 | exact U15 | exact U16 | exact U17 | exact U18 | exact U19 | exact U20 | exact U21 | exact U22 | exact U23) (by rfl) ?_)
  refine SPL_nil ?_
  refine thenP_n ?_
  refine SP_ret ?_
  refine inBlockP_ret (thenP_ret (bodyP_ret (H' := [blk rb 30 [.pointer (some ⟨tb2, 0, none⟩)], blk tb2 49 [.pointer (some ⟨pb2, 0, none⟩), .pointer (some ⟨kb2, 0, none⟩), .pointer (some ⟨x2, 0, none⟩)], blk x2 93 [.pointer (some ⟨pb2, 0, none⟩), .pointer (some ⟨kb2, 0, none⟩), .slice none 0 0, .slice none 0 0, I 0, I 0], sp2, sk2, List.flatten [blk gb 37 [.pointer (some ⟨mb, 0, none⟩), .pointer (some ⟨mb2, 0, none⟩), .slice ca g.code.length cc, .slice aa g.args.length ac], s2, sc, sv], sm, gs]) (ResC rfl rfl Tryz.isAgg53 Tryz.sizeOf53 rfl (by repeat (first | exact Cells.all _ | exact Cells.head rfl | apply Cells.tail))) (by repeat (first | exact Part.nil _ | (apply Part.cons; (first | exact P0 | exact P1 | exact P2 | exact P3 | exact P4 | exact P5 | exact P6 | exact P7 | exact P8 | exact P9 | exact P10 | exact P11 | exact P12 | exact P13 | exact P14 | exact P15 | exact P16 | exact P17 | exact P18 | exact P19 | exact P20 | exact P21 | exact P22 | exact P23)) | (apply Part.flat; simp only [List.cons_append, List.nil_append]) | (apply Part.nilc))) ?_))
  exact ⟨⟨0, 0, 0, []⟩, ⟨(loadM g.m).1, 0, mem0 g.m, 0⟩, _, .inl ⟨hkind, .inl ⟨he, rfl, rfl⟩⟩, rfl, rfl, tb2, pb2, kb2, x2, pfa2, sp2, sk2, rfl, hp2, hk2⟩

theorem tow_DoX_loaderr (rb tb pb kb x gb mb : Nat) (pfa : Option Addr) (L : Plain) (T : Tw) (hst : T.steps = 0) (sp sk : Seg) (hp : isProg pb pfa T.P T.steps sp) (hk : isMach kb T.mem sk) (g : Rg) (s sm : Seg) (hg : isRegs gb mb g s sm) (o : Op1) (hT : L.TOk T.P T.mem) (hO : OpOk o) (hA : ∀ y, y ∈ g.args → i64ok y.v) (ok0 : ModOk g.m) (hal : g.args.length ≤ 100) (gs : Seg) (hgs : isG gs) (hkind : o.kind = 8) (he : (loadM g.m).2.2.2 ≠ 0) : Spec Tryz.prog 15 [.pointer (some ⟨rb, 0, none⟩), .pointer (some ⟨gb, 0, none⟩), .agg (opV o).toArray] [blk rb 30 [.pointer (some ⟨tb, 0, none⟩)], blk tb 49 [(.pointer (some ⟨pb, 0, none⟩)), (.pointer (some ⟨kb, 0, none⟩)), .pointer (some ⟨x, 0, none⟩)], blk x 93 [(.pointer (some ⟨pb, 0, none⟩)), (.pointer (some ⟨kb, 0, none⟩)), .slice none 0 0, .slice none 0 0, I 0, I T.high], sp, sk, s, sm, gs] (Ret fun v H => ∃ a T' HT, DoX L T g o T' a ∧ v = .agg (ansV a).toArray ∧ H = HT ++ [s, sm, gs] ∧ isTow rb T' HT) := by
  have hg0 := hg
  obtain ⟨mb2, ca, cc, aa, ac, s2, sc, sv, rfl, hm1, hm2, hcd, hav⟩ := hg
  obtain ⟨ok, oa, ob, oc, os, ot⟩ := o
  dsimp only at hkind
  refine Spec_openAt [blk gb 37 [.pointer (some ⟨mb, 0, none⟩), .pointer (some ⟨mb2, 0, none⟩), .slice ca g.code.length cc, .slice aa g.args.length ac], s2, sc, sv] (by first | exact P0 | exact P1 | exact P2 | exact P3 | exact P4 | exact P5 | exact P6 | exact P7 | exact P8 | exact P9 | exact P10 | exact P11 | exact P12 | exact P13 | exact P14 | exact P15 | exact P16 | exact P17 | exact P18 | exact P19 | exact P20 | exact P21 | exact P22 | exact P23) ?_
  simp only [List.cons_append, List.nil_append, opV]
  refine Spec_enter Tryz.func15 rfl Tryz.ntmps15 rfl ?_
  show SP _ _ _ _ _ [(0, _), (1, _), (2, _)] _
  refine SP_seq ?_
  refine SP_region ?_
  refine SPL_one rfl (SP1_box rfl rfl rfl ?_)
  intro b5
  refine SPL_one rfl (SP1_alloc Tryz.zeroValue53 rfl rfl ?_)
  intro b6
  refine SPL_nil ?_
  refine thenP_n ?_
  refine SP_seq ?_
  refine SP_seq ?_
  refine SP_region ?_
  refine SPL_y (y_fa fld_43_0 rfl) rfl ?_
  refine SPL_y (y_load Tryz.isAgg3 rfl (by repeat (first | exact Cell.head rfl | apply Cell.tail))) rfl ?_
  refine SPL_nil ?_
  refine thenP_n ?_
  refine SP_block ?_
  refine SP_seq ?_
  refine SP_region ?_
  refine SPL_y (y_eqlT rfl rfl hkind) rfl ?_
  refine SPL_y (y_assign rfl) rfl ?_
  refine SPL_nil ?_
  refine thenP_n ?_
  refine SP_cond_t rfl ?_
  refine SP_seq ?_
  refine SP_region ?_
  refine SPL_y (y_move rfl) rfl ?_
  refine SPL_y (y_nil rfl) rfl ?_
  refine SPL_y (y_fa fld_37_0 rfl) rfl ?_
  refine SPL_y (y_load Tryz.isAgg32 rfl (by repeat (first | exact Cell.head rfl | apply Cell.tail))) rfl ?_
  refine SPL_one rfl (SP1_call (link_err mb g.m sm hm1 ok0 he) Tryz.call11 rfl rfl (by repeat (first | exact Part.nil _ | (apply Part.cons; (first | exact P0 | exact P1 | exact P2 | exact P3 | exact P4 | exact P5 | exact P6 | exact P7 | exact P8 | exact P9 | exact P10 | exact P11 | exact P12 | exact P13 | exact P14 | exact P15 | exact P16 | exact P17 | exact P18 | exact P19 | exact P20 | exact P21 | exact P22 | exact P23)) | (apply Part.flat; simp only [List.cons_append, List.nil_append]) | (apply Part.nilc))) ?_)
  rintro v post H' ⟨eb, rfl, rfl⟩ hH
  try simp only [List.cons_append, List.nil_append] at hH
  subst hH
  refine SPL_y (y_move rfl) rfl ?_
  refine SPL_y (y_ext rfl rfl) rfl ?_
  refine SPL_y (y_ext rfl rfl) rfl ?_
  refine SPL_y (y_assign rfl) rfl ?_
  refine SPL_y (y_assign rfl) rfl ?_
  refine SPL_nil ?_
  refine thenP_n ?_
  refine SP_seq ?_
  refine SP_seq ?_
  refine SP_region ?_
  refine SPL_y (y_move rfl) rfl ?_
  refine SPL_y (y_ieq_nil (c := false) Tryz.underlying39 rfl rfl) rfl ?_
  refine SPL_nil ?_
  refine thenP_n ?_
  refine SP_cond_f rfl ?_
  refine SP_skip ?_
  refine thenP_n ?_
  refine SP_seq ?_
  refine SP_region ?_
  refine SPL_y (y_move rfl) rfl ?_
  refine SPL_one rfl (SP1_call (fault_123 eb _ _ _ he gs hgs) Tryz.call39 rfl rfl (by repeat (first | exact Part.nil _ | (apply Part.cons; (first | exact P0 | exact P1 | exact P2 | exact P3 | exact P4 | exact P5 | exact P6 | exact P7 | exact P8 | exact P9 | exact P10 | exact P11 | exact P12 | exact P13 | exact P14 | exact P15 | exact P16 | exact P17 | exact P18 | exact P19 | exact P20 | exact P21 | exact P22 | exact P23)) | (apply Part.flat; simp only [List.cons_append, List.nil_append]) | (apply Part.nilc))) ?_)
  rintro v post H' ⟨rfl, rfl⟩ hH
  try simp only [List.cons_append, List.nil_append] at hH
  subst hH
  refine SPL_one rfl (SP1_storeAll Tryz.sizeOf53 rfl rfl rfl rfl rfl (by first | exact U0 | exact U1 | exact U2 | exact U3 | exact U4 | exact U5 | exact U6 | exact U7 | exact U8 | exact U9 | exact U10 | exact U11 | exact U12 | exact U13 | exact U14 | exact U15 | exact U16 | exact U17 | exact U18 | exact U19 | exact U20 | exact U21 | exact U22 | exact U23) (by rfl) ?_)
  refine SPL_nil ?_
  refine thenP_n ?_
  refine SP_ret ?_
  refine inBlockP_ret (thenP_ret (bodyP_ret (H' := [blk rb 30 [.pointer (some ⟨tb, 0, none⟩)], blk tb 49 [(.pointer (some ⟨pb, 0, none⟩)), (.pointer (some ⟨kb, 0, none⟩)), .pointer (some ⟨x, 0, none⟩)], blk x 93 [(.pointer (some ⟨pb, 0, none⟩)), (.pointer (some ⟨kb, 0, none⟩)), .slice none 0 0, .slice none 0 0, I 0, I T.high], sp, sk, List.flatten [blk gb 37 [.pointer (some ⟨mb, 0, none⟩), .pointer (some ⟨mb2, 0, none⟩), .slice ca g.code.length cc, .slice aa g.args.length ac], s2, sc, sv], sm, gs]) (ResC rfl rfl Tryz.isAgg53 Tryz.sizeOf53 rfl (by repeat (first | exact Cells.all _ | exact Cells.head rfl | apply Cells.tail))) (by repeat (first | exact Part.nil _ | (apply Part.cons; (first | exact P0 | exact P1 | exact P2 | exact P3 | exact P4 | exact P5 | exact P6 | exact P7 | exact P8 | exact P9 | exact P10 | exact P11 | exact P12 | exact P13 | exact P14 | exact P15 | exact P16 | exact P17 | exact P18 | exact P19 | exact P20 | exact P21 | exact P22 | exact P23)) | (apply Part.flat; simp only [List.cons_append, List.nil_append]) | (apply Part.nilc))) ?_))
  exact ⟨⟨(loadM g.m).2.2.2, (loadM g.m).2.1, (loadM g.m).2.2.1, []⟩, T, _, .inl ⟨hkind, .inr ⟨he, rfl, rfl⟩⟩, rfl, rfl, tb, pb, kb, x, pfa, sp, sk, rfl, hp, hk⟩

theorem tow_DoX_show (rb tb pb kb x gb mb : Nat) (pfa : Option Addr) (L : Plain) (T : Tw) (hst : T.steps = 0) (sp sk : Seg) (hp : isProg pb pfa T.P T.steps sp) (hk : isMach kb T.mem sk) (g : Rg) (s sm : Seg) (hg : isRegs gb mb g s sm) (o : Op1) (hT : L.TOk T.P T.mem) (hO : OpOk o) (hA : ∀ y, y ∈ g.args → i64ok y.v) (ok0 : ModOk g.m) (hal : g.args.length ≤ 100) (gs : Seg) (hgs : isG gs) (hkind : o.kind = 11) : Spec Tryz.prog 15 [.pointer (some ⟨rb, 0, none⟩), .pointer (some ⟨gb, 0, none⟩), .agg (opV o).toArray] [blk rb 30 [.pointer (some ⟨tb, 0, none⟩)], blk tb 49 [(.pointer (some ⟨pb, 0, none⟩)), (.pointer (some ⟨kb, 0, none⟩)), .pointer (some ⟨x, 0, none⟩)], blk x 93 [(.pointer (some ⟨pb, 0, none⟩)), (.pointer (some ⟨kb, 0, none⟩)), .slice none 0 0, .slice none 0 0, I 0, I T.high], sp, sk, s, sm, gs] (Ret fun v H => ∃ a T' HT, DoX L T g o T' a ∧ v = .agg (ansV a).toArray ∧ H = HT ++ [s, sm, gs] ∧ isTow rb T' HT) := by
  have hg0 := hg
  obtain ⟨mb2, ca, cc, aa, ac, s2, sc, sv, rfl, hm1, hm2, hcd, hav⟩ := hg
  obtain ⟨ok, oa, ob, oc, os, ot⟩ := o
  dsimp only at hkind
  refine Spec_openAt [blk gb 37 [.pointer (some ⟨mb, 0, none⟩), .pointer (some ⟨mb2, 0, none⟩), .slice ca g.code.length cc, .slice aa g.args.length ac], s2, sc, sv] (by first | exact P0 | exact P1 | exact P2 | exact P3 | exact P4 | exact P5 | exact P6 | exact P7 | exact P8 | exact P9 | exact P10 | exact P11 | exact P12 | exact P13 | exact P14 | exact P15 | exact P16 | exact P17 | exact P18 | exact P19 | exact P20 | exact P21 | exact P22 | exact P23) ?_
  simp only [List.cons_append, List.nil_append, opV]
  refine Spec_enter Tryz.func15 rfl Tryz.ntmps15 rfl ?_
  show SP _ _ _ _ _ [(0, _), (1, _), (2, _)] _
  refine SP_seq ?_
  refine SP_region ?_
  refine SPL_one rfl (SP1_box rfl rfl rfl ?_)
  intro b5
  refine SPL_one rfl (SP1_alloc Tryz.zeroValue53 rfl rfl ?_)
  intro b6
  refine SPL_nil ?_
  refine thenP_n ?_
  refine SP_seq ?_
  refine SP_seq ?_
  refine SP_region ?_
  refine SPL_y (y_fa fld_43_0 rfl) rfl ?_
  refine SPL_y (y_load Tryz.isAgg3 rfl (by repeat (first | exact Cell.head rfl | apply Cell.tail))) rfl ?_
  refine SPL_nil ?_
  refine thenP_n ?_
  refine SP_block ?_
  refine SP_seq ?_
  refine SP_region ?_
  refine SPL_y (y_eqlF rfl rfl (by omega)) rfl ?_
  refine SPL_y (y_assign rfl) rfl ?_
  refine SPL_nil ?_
  refine thenP_n ?_
  refine SP_cond_f rfl ?_
  refine SP_seq ?_
  refine SP_region ?_
  refine SPL_y (y_eqlF rfl rfl (by omega)) rfl ?_
  refine SPL_y (y_assign rfl) rfl ?_
  refine SPL_nil ?_
  refine thenP_n ?_
  refine SP_cond_f rfl ?_
  refine SP_seq ?_
  refine SP_region ?_
  refine SPL_y (y_eqlT rfl rfl hkind) rfl ?_
  refine SPL_y (y_assign rfl) rfl ?_
  refine SPL_nil ?_
  refine thenP_n ?_
  refine SP_cond_t rfl ?_
  refine SP_seq ?_
  refine SP_region ?_
  refine SPL_y (y_move rfl) rfl ?_
  refine SPL_one rfl (SP1_call (law_Show rb tb pb kb x pfa T.P T.steps T.mem T.high sp sk hp hk (L.pb _ _ hT).1 (L.pb _ _ hT).2.1 (L.pb _ _ hT).2.2) Tryz.call27 rfl rfl (by repeat (first | exact Part.nil _ | (apply Part.cons; (first | exact P0 | exact P1 | exact P2 | exact P3 | exact P4 | exact P5 | exact P6 | exact P7 | exact P8 | exact P9 | exact P10 | exact P11 | exact P12 | exact P13 | exact P14 | exact P15 | exact P16 | exact P17 | exact P18 | exact P19 | exact P20 | exact P21 | exact P22 | exact P23)) | (apply Part.flat; simp only [List.cons_append, List.nil_append]) | (apply Part.nilc))) ?_)
  rintro v post H' ⟨rfl, rfl⟩ hH
  try simp only [List.cons_append, List.nil_append] at hH
  subst hH
  refine SPL_y (y_build B53 rfl rfl (by simp only [fillL, List.foldl_cons, List.foldl_nil, List.set_cons_zero, List.set_cons_succ]; exact rfl)) rfl ?_
  refine SPL_one rfl (SP1_storeAll Tryz.sizeOf53 rfl rfl rfl rfl rfl (by first | exact U0 | exact U1 | exact U2 | exact U3 | exact U4 | exact U5 | exact U6 | exact U7 | exact U8 | exact U9 | exact U10 | exact U11 | exact U12 | exact U13 | exact U14 | exact U15 | exact U16 | exact U17 | exact U18 | exact U19 | exact U20 | exact U21 | exact U22 | exact U23) (by rfl) ?_)
  refine SPL_nil ?_
  refine thenP_n ?_
  refine SP_ret ?_
  refine inBlockP_ret (thenP_ret (bodyP_ret (H' := [blk rb 30 [.pointer (some ⟨tb, 0, none⟩)], blk tb 49 [(.pointer (some ⟨pb, 0, none⟩)), (.pointer (some ⟨kb, 0, none⟩)), .pointer (some ⟨x, 0, none⟩)], blk x 93 [(.pointer (some ⟨pb, 0, none⟩)), (.pointer (some ⟨kb, 0, none⟩)), .slice none 0 0, .slice none 0 0, I 0, I T.high], sp, sk, List.flatten [blk gb 37 [.pointer (some ⟨mb, 0, none⟩), .pointer (some ⟨mb2, 0, none⟩), .slice ca g.code.length cc, .slice aa g.args.length ac], s2, sc, sv], sm, gs]) (ResC rfl rfl Tryz.isAgg53 Tryz.sizeOf53 rfl (by repeat (first | exact Cells.all _ | exact Cells.head rfl | apply Cells.tail))) (by repeat (first | exact Part.nil _ | (apply Part.cons; (first | exact P0 | exact P1 | exact P2 | exact P3 | exact P4 | exact P5 | exact P6 | exact P7 | exact P8 | exact P9 | exact P10 | exact P11 | exact P12 | exact P13 | exact P14 | exact P15 | exact P16 | exact P17 | exact P18 | exact P19 | exact P20 | exact P21 | exact P22 | exact P23)) | (apply Part.flat; simp only [List.cons_append, List.nil_append]) | (apply Part.nilc))) ?_))
  exact ⟨⟨0, 0, 0, showProg T.P ++ [124] ++ showMem T.mem⟩, T, _, .inr (.inr (.inl ⟨hkind, rfl, rfl⟩)), rfl, rfl, tb, pb, kb, x, pfa, sp, sk, rfl, hp, hk⟩

theorem tow_DoX_check (rb tb pb kb x gb mb : Nat) (pfa : Option Addr) (L : Plain) (T : Tw) (hst : T.steps = 0) (sp sk : Seg) (hp : isProg pb pfa T.P T.steps sp) (hk : isMach kb T.mem sk) (g : Rg) (s sm : Seg) (hg : isRegs gb mb g s sm) (o : Op1) (hT : L.TOk T.P T.mem) (hO : OpOk o) (hA : ∀ y, y ∈ g.args → i64ok y.v) (ok0 : ModOk g.m) (hal : g.args.length ≤ 100) (gs : Seg) (hgs : isG gs) (hkind : o.kind = 12) (hK : CheckOk T.P) : Spec Tryz.prog 15 [.pointer (some ⟨rb, 0, none⟩), .pointer (some ⟨gb, 0, none⟩), .agg (opV o).toArray] [blk rb 30 [.pointer (some ⟨tb, 0, none⟩)], blk tb 49 [(.pointer (some ⟨pb, 0, none⟩)), (.pointer (some ⟨kb, 0, none⟩)), .pointer (some ⟨x, 0, none⟩)], blk x 93 [(.pointer (some ⟨pb, 0, none⟩)), (.pointer (some ⟨kb, 0, none⟩)), .slice none 0 0, .slice none 0 0, I 0, I T.high], sp, sk, s, sm, gs] (Ret fun v H => ∃ a T' HT, DoX L T g o T' a ∧ v = .agg (ansV a).toArray ∧ H = HT ++ [s, sm, gs] ∧ isTow rb T' HT) := by
  have hg0 := hg
  obtain ⟨mb2, ca, cc, aa, ac, s2, sc, sv, rfl, hm1, hm2, hcd, hav⟩ := hg
  obtain ⟨ok, oa, ob, oc, os, ot⟩ := o
  dsimp only at hkind
  refine Spec_openAt [blk gb 37 [.pointer (some ⟨mb, 0, none⟩), .pointer (some ⟨mb2, 0, none⟩), .slice ca g.code.length cc, .slice aa g.args.length ac], s2, sc, sv] (by first | exact P0 | exact P1 | exact P2 | exact P3 | exact P4 | exact P5 | exact P6 | exact P7 | exact P8 | exact P9 | exact P10 | exact P11 | exact P12 | exact P13 | exact P14 | exact P15 | exact P16 | exact P17 | exact P18 | exact P19 | exact P20 | exact P21 | exact P22 | exact P23) ?_
  simp only [List.cons_append, List.nil_append, opV]
  refine Spec_enter Tryz.func15 rfl Tryz.ntmps15 rfl ?_
  show SP _ _ _ _ _ [(0, _), (1, _), (2, _)] _
  refine SP_seq ?_
  refine SP_region ?_
  refine SPL_one rfl (SP1_box rfl rfl rfl ?_)
  intro b5
  refine SPL_one rfl (SP1_alloc Tryz.zeroValue53 rfl rfl ?_)
  intro b6
  refine SPL_nil ?_
  refine thenP_n ?_
  refine SP_seq ?_
  refine SP_seq ?_
  refine SP_region ?_
  refine SPL_y (y_fa fld_43_0 rfl) rfl ?_
  refine SPL_y (y_load Tryz.isAgg3 rfl (by repeat (first | exact Cell.head rfl | apply Cell.tail))) rfl ?_
  refine SPL_nil ?_
  refine thenP_n ?_
  refine SP_block ?_
  refine SP_seq ?_
  refine SP_region ?_
  refine SPL_y (y_eqlF rfl rfl (by omega)) rfl ?_
  refine SPL_y (y_assign rfl) rfl ?_
  refine SPL_nil ?_
  refine thenP_n ?_
  refine SP_cond_f rfl ?_
  refine SP_seq ?_
  refine SP_region ?_
  refine SPL_y (y_eqlF rfl rfl (by omega)) rfl ?_
  refine SPL_y (y_assign rfl) rfl ?_
  refine SPL_nil ?_
  refine thenP_n ?_
  refine SP_cond_f rfl ?_
  refine SP_seq ?_
  refine SP_region ?_
  refine SPL_y (y_eqlF rfl rfl (by omega)) rfl ?_
  refine SPL_y (y_assign rfl) rfl ?_
  refine SPL_nil ?_
  refine thenP_n ?_
  refine SP_cond_f rfl ?_
  refine SP_seq ?_
  refine SP_region ?_
  refine SPL_y (y_eqlT rfl rfl hkind) rfl ?_
  refine SPL_y (y_assign rfl) rfl ?_
  refine SPL_nil ?_
  refine thenP_n ?_
  refine SP_cond_t rfl ?_
  refine SP_seq ?_
  refine SP_region ?_
  refine SPL_y (y_move rfl) rfl ?_
  refine SPL_one rfl (SP1_call (law_CheckT rb tb pb kb x pfa T.P T.steps T.mem T.high sp sk hp hk (L.pb _ _ hT).1 hK) Tryz.call29 rfl rfl (by repeat (first | exact Part.nil _ | (apply Part.cons; (first | exact P0 | exact P1 | exact P2 | exact P3 | exact P4 | exact P5 | exact P6 | exact P7 | exact P8 | exact P9 | exact P10 | exact P11 | exact P12 | exact P13 | exact P14 | exact P15 | exact P16 | exact P17 | exact P18 | exact P19 | exact P20 | exact P21 | exact P22 | exact P23)) | (apply Part.flat; simp only [List.cons_append, List.nil_append]) | (apply Part.nilc))) ?_)
  rintro v post H' ⟨rfl, rfl⟩ hH
  try simp only [List.cons_append, List.nil_append] at hH
  subst hH
  refine SPL_nil ?_
  refine thenP_n ?_
  refine SP_cond_t rfl ?_
  refine SP_seq ?_
  refine SP_region ?_
  refine SPL_y (y_build B53 rfl rfl (by simp only [fillL, List.foldl_cons, List.foldl_nil, List.set_cons_zero, List.set_cons_succ]; exact rfl)) rfl ?_
  refine SPL_one rfl (SP1_storeAll Tryz.sizeOf53 rfl rfl rfl rfl rfl (by first | exact U0 | exact U1 | exact U2 | exact U3 | exact U4 | exact U5 | exact U6 | exact U7 | exact U8 | exact U9 | exact U10 | exact U11 | exact U12 | exact U13 | exact U14 | exact U15 | exact U16 | exact U17 | exact U18 | exact U19 | exact U20 | exact U21 | exact U22 | exact U23) (by rfl) ?_)
  refine SPL_nil ?_
  refine thenP_n ?_
  refine SP_ret ?_
  refine inBlockP_ret (thenP_ret (bodyP_ret (H' := [blk rb 30 [.pointer (some ⟨tb, 0, none⟩)], blk tb 49 [(.pointer (some ⟨pb, 0, none⟩)), (.pointer (some ⟨kb, 0, none⟩)), .pointer (some ⟨x, 0, none⟩)], blk x 93 [(.pointer (some ⟨pb, 0, none⟩)), (.pointer (some ⟨kb, 0, none⟩)), .slice none 0 0, .slice none 0 0, I 0, I T.high], sp, sk, List.flatten [blk gb 37 [.pointer (some ⟨mb, 0, none⟩), .pointer (some ⟨mb2, 0, none⟩), .slice ca g.code.length cc, .slice aa g.args.length ac], s2, sc, sv], sm, gs]) (ResC rfl rfl Tryz.isAgg53 Tryz.sizeOf53 rfl (by repeat (first | exact Cells.all _ | exact Cells.head rfl | apply Cells.tail))) (by repeat (first | exact Part.nil _ | (apply Part.cons; (first | exact P0 | exact P1 | exact P2 | exact P3 | exact P4 | exact P5 | exact P6 | exact P7 | exact P8 | exact P9 | exact P10 | exact P11 | exact P12 | exact P13 | exact P14 | exact P15 | exact P16 | exact P17 | exact P18 | exact P19 | exact P20 | exact P21 | exact P22 | exact P23)) | (apply Part.flat; simp only [List.cons_append, List.nil_append]) | (apply Part.nilc))) ?_))
  exact ⟨⟨0, 0, 1, []⟩, T, _, .inr (.inr (.inr (.inl ⟨hkind, rfl, rfl⟩))), rfl, rfl, tb, pb, kb, x, pfa, sp, sk, rfl, hp, hk⟩

theorem tow_DoX_other (rb tb pb kb x gb mb : Nat) (pfa : Option Addr) (L : Plain) (T : Tw) (hst : T.steps = 0) (sp sk : Seg) (hp : isProg pb pfa T.P T.steps sp) (hk : isMach kb T.mem sk) (g : Rg) (s sm : Seg) (hg : isRegs gb mb g s sm) (o : Op1) (hT : L.TOk T.P T.mem) (hO : OpOk o) (hA : ∀ y, y ∈ g.args → i64ok y.v) (ok0 : ModOk g.m) (hal : g.args.length ≤ 100) (gs : Seg) (hgs : isG gs) (hkind : o.kind ≠ 8 ∧ o.kind ≠ 10 ∧ o.kind ≠ 11 ∧ o.kind ≠ 12) : Spec Tryz.prog 15 [.pointer (some ⟨rb, 0, none⟩), .pointer (some ⟨gb, 0, none⟩), .agg (opV o).toArray] [blk rb 30 [.pointer (some ⟨tb, 0, none⟩)], blk tb 49 [(.pointer (some ⟨pb, 0, none⟩)), (.pointer (some ⟨kb, 0, none⟩)), .pointer (some ⟨x, 0, none⟩)], blk x 93 [(.pointer (some ⟨pb, 0, none⟩)), (.pointer (some ⟨kb, 0, none⟩)), .slice none 0 0, .slice none 0 0, I 0, I T.high], sp, sk, s, sm, gs] (Ret fun v H => ∃ a T' HT, DoX L T g o T' a ∧ v = .agg (ansV a).toArray ∧ H = HT ++ [s, sm, gs] ∧ isTow rb T' HT) := by
  have hg0 := hg
  obtain ⟨mb2, ca, cc, aa, ac, s2, sc, sv, rfl, hm1, hm2, hcd, hav⟩ := hg
  obtain ⟨ok, oa, ob, oc, os, ot⟩ := o
  dsimp only at hkind
  refine Spec_openAt [blk gb 37 [.pointer (some ⟨mb, 0, none⟩), .pointer (some ⟨mb2, 0, none⟩), .slice ca g.code.length cc, .slice aa g.args.length ac], s2, sc, sv] (by first | exact P0 | exact P1 | exact P2 | exact P3 | exact P4 | exact P5 | exact P6 | exact P7 | exact P8 | exact P9 | exact P10 | exact P11 | exact P12 | exact P13 | exact P14 | exact P15 | exact P16 | exact P17 | exact P18 | exact P19 | exact P20 | exact P21 | exact P22 | exact P23) ?_
  simp only [List.cons_append, List.nil_append, opV]
  refine Spec_enter Tryz.func15 rfl Tryz.ntmps15 rfl ?_
  show SP _ _ _ _ _ [(0, _), (1, _), (2, _)] _
  refine SP_seq ?_
  refine SP_region ?_
  refine SPL_one rfl (SP1_box rfl rfl rfl ?_)
  intro b5
  refine SPL_one rfl (SP1_alloc Tryz.zeroValue53 rfl rfl ?_)
  intro b6
  refine SPL_nil ?_
  refine thenP_n ?_
  refine SP_seq ?_
  refine SP_seq ?_
  refine SP_region ?_
  refine SPL_y (y_fa fld_43_0 rfl) rfl ?_
  refine SPL_y (y_load Tryz.isAgg3 rfl (by repeat (first | exact Cell.head rfl | apply Cell.tail))) rfl ?_
  refine SPL_nil ?_
  refine thenP_n ?_
  refine SP_block ?_
  refine SP_seq ?_
  refine SP_region ?_
  refine SPL_y (y_eqlF rfl rfl (by omega)) rfl ?_
  refine SPL_y (y_assign rfl) rfl ?_
  refine SPL_nil ?_
  refine thenP_n ?_
  refine SP_cond_f rfl ?_
  refine SP_seq ?_
  refine SP_region ?_
  refine SPL_y (y_eqlF rfl rfl (by omega)) rfl ?_
  refine SPL_y (y_assign rfl) rfl ?_
  refine SPL_nil ?_
  refine thenP_n ?_
  refine SP_cond_f rfl ?_
  refine SP_seq ?_
  refine SP_region ?_
  refine SPL_y (y_eqlF rfl rfl (by omega)) rfl ?_
  refine SPL_y (y_assign rfl) rfl ?_
  refine SPL_nil ?_
  refine thenP_n ?_
  refine SP_cond_f rfl ?_
  refine SP_seq ?_
  refine SP_region ?_
  refine SPL_y (y_eqlF rfl rfl (by omega)) rfl ?_
  refine SPL_y (y_assign rfl) rfl ?_
  refine SPL_nil ?_
  refine thenP_n ?_
  refine SP_cond_f rfl ?_
  refine SP_skip ?_
  refine inBlockP_n ?_
  refine thenP_n ?_
  refine SP_seq ?_
  refine SP_region ?_
  refine SPL_y (y_build B53 rfl rfl (by simp only [fillL, List.foldl_cons, List.foldl_nil, List.set_cons_zero, List.set_cons_succ]; exact rfl)) rfl ?_
  refine SPL_one rfl (SP1_storeAll Tryz.sizeOf53 rfl rfl rfl rfl rfl (by first | exact U0 | exact U1 | exact U2 | exact U3 | exact U4 | exact U5 | exact U6 | exact U7 | exact U8 | exact U9 | exact U10 | exact U11 | exact U12 | exact U13 | exact U14 | exact U15 | exact U16 | exact U17 | exact U18 | exact U19 | exact U20 | exact U21 | exact U22 | exact U23) (by rfl) ?_)
  refine SPL_nil ?_
  refine thenP_n ?_
  refine SP_ret ?_
  refine bodyP_ret (H' := [blk rb 30 [.pointer (some ⟨tb, 0, none⟩)], blk tb 49 [(.pointer (some ⟨pb, 0, none⟩)), (.pointer (some ⟨kb, 0, none⟩)), .pointer (some ⟨x, 0, none⟩)], blk x 93 [(.pointer (some ⟨pb, 0, none⟩)), (.pointer (some ⟨kb, 0, none⟩)), .slice none 0 0, .slice none 0 0, I 0, I T.high], sp, sk, List.flatten [blk gb 37 [.pointer (some ⟨mb, 0, none⟩), .pointer (some ⟨mb2, 0, none⟩), .slice ca g.code.length cc, .slice aa g.args.length ac], s2, sc, sv], sm, gs]) (ResC rfl rfl Tryz.isAgg53 Tryz.sizeOf53 rfl (by repeat (first | exact Cells.all _ | exact Cells.head rfl | apply Cells.tail))) (by repeat (first | exact Part.nil _ | (apply Part.cons; (first | exact P0 | exact P1 | exact P2 | exact P3 | exact P4 | exact P5 | exact P6 | exact P7 | exact P8 | exact P9 | exact P10 | exact P11 | exact P12 | exact P13 | exact P14 | exact P15 | exact P16 | exact P17 | exact P18 | exact P19 | exact P20 | exact P21 | exact P22 | exact P23)) | (apply Part.flat; simp only [List.cons_append, List.nil_append]) | (apply Part.nilc))) ?_
  exact ⟨⟨0, 0, 0, []⟩, T, _, .inr (.inr (.inr (.inr ⟨hkind.1, hkind.2.1, hkind.2.2.1, hkind.2.2.2, rfl, rfl⟩))), rfl, rfl, tb, pb, kb, x, pfa, sp, sk, rfl, hp, hk⟩

theorem tow_DoX_call (rb tb pb kb x gb mb : Nat) (pfa : Option Addr) (L : Plain) (T : Tw) (hst : T.steps = 0) (sp sk : Seg) (hp : isProg pb pfa T.P T.steps sp) (hk : isMach kb T.mem sk) (g : Rg) (s sm : Seg) (hg : isRegs gb mb g s sm) (o : Op1) (hT : L.TOk T.P T.mem) (hO : OpOk o) (hA : ∀ y, y ∈ g.args → i64ok y.v) (ok0 : ModOk g.m) (hal : g.args.length ≤ 100) (gs : Seg) (hgs : isG gs) (hkind : o.kind = 10) : Spec Tryz.prog 15 [.pointer (some ⟨rb, 0, none⟩), .pointer (some ⟨gb, 0, none⟩), .agg (opV o).toArray] [blk rb 30 [.pointer (some ⟨tb, 0, none⟩)], blk tb 49 [(.pointer (some ⟨pb, 0, none⟩)), (.pointer (some ⟨kb, 0, none⟩)), .pointer (some ⟨x, 0, none⟩)], blk x 93 [(.pointer (some ⟨pb, 0, none⟩)), (.pointer (some ⟨kb, 0, none⟩)), .slice none 0 0, .slice none 0 0, I 0, I T.high], sp, sk, s, sm, gs] (Ret fun v H => ∃ a T' HT, DoX L T g o T' a ∧ v = .agg (ansV a).toArray ∧ H = HT ++ [s, sm, gs] ∧ isTow rb T' HT) := by
  have hg0 := hg
  obtain ⟨mb2, ca, cc, aa, ac, s2, sc, sv, rfl, hm1, hm2, hcd, hav⟩ := hg
  obtain ⟨ok, oa, ob, oc, os, ot⟩ := o
  dsimp only at hkind
  refine Spec_openAt [blk gb 37 [.pointer (some ⟨mb, 0, none⟩), .pointer (some ⟨mb2, 0, none⟩), .slice ca g.code.length cc, .slice aa g.args.length ac], s2, sc, sv] (by first | exact P0 | exact P1 | exact P2 | exact P3 | exact P4 | exact P5 | exact P6 | exact P7 | exact P8 | exact P9 | exact P10 | exact P11 | exact P12 | exact P13 | exact P14 | exact P15 | exact P16 | exact P17 | exact P18 | exact P19 | exact P20 | exact P21 | exact P22 | exact P23) ?_
  simp only [List.cons_append, List.nil_append, opV]
  refine Spec_enter Tryz.func15 rfl Tryz.ntmps15 rfl ?_
  show SP _ _ _ _ _ [(0, _), (1, _), (2, _)] _
  refine SP_seq ?_
  refine SP_region ?_
  refine SPL_one rfl (SP1_box rfl rfl rfl ?_)
  intro b5
  refine SPL_one rfl (SP1_alloc Tryz.zeroValue53 rfl rfl ?_)
  intro b6
  refine SPL_nil ?_
  refine thenP_n ?_
  refine SP_seq ?_
  refine SP_seq ?_
  refine SP_region ?_
  refine SPL_y (y_fa fld_43_0 rfl) rfl ?_
  refine SPL_y (y_load Tryz.isAgg3 rfl (by repeat (first | exact Cell.head rfl | apply Cell.tail))) rfl ?_
  refine SPL_nil ?_
  refine thenP_n ?_
  refine SP_block ?_
  refine SP_seq ?_
  refine SP_region ?_
  refine SPL_y (y_eqlF rfl rfl (by omega)) rfl ?_
  refine SPL_y (y_assign rfl) rfl ?_
  refine SPL_nil ?_
  refine thenP_n ?_
  refine SP_cond_f rfl ?_
  refine SP_seq ?_
  refine SP_region ?_
  refine SPL_y (y_eqlT rfl rfl hkind) rfl ?_
  refine SPL_y (y_assign rfl) rfl ?_
  refine SPL_nil ?_
  refine thenP_n ?_
  refine SP_cond_t rfl ?_
  refine SP_seq ?_
  have hp0 : isProg pb pfa T.P 0 sp := by rw [hst] at hp; exact hp
  refine SP_part (H' := [[], blk b5 43 [I ok, I oa, I ob, I oc, S os, S ot], blk b6 53 [I 0, I 0, I 0, S []], blk rb 30 [.pointer (some ⟨tb, 0, none⟩)], blk tb 49 [(.pointer (some ⟨pb, 0, none⟩)), (.pointer (some ⟨kb, 0, none⟩)), .pointer (some ⟨x, 0, none⟩)], blk x 93 [(.pointer (some ⟨pb, 0, none⟩)), (.pointer (some ⟨kb, 0, none⟩)), .slice none 0 0, .slice none 0 0, I 0, I T.high], sp, sk, blk gb 37 [.pointer (some ⟨mb, 0, none⟩), .pointer (some ⟨mb2, 0, none⟩), .slice ca g.code.length cc, .slice aa g.args.length ac], s2, sc, sv, sm, gs]) (by repeat (first | exact Part.nil _ | (apply Part.cons; (first | exact P0 | exact P1 | exact P2 | exact P3 | exact P4 | exact P5 | exact P6 | exact P7 | exact P8 | exact P9 | exact P10 | exact P11 | exact P12 | exact P13 | exact P14 | exact P15 | exact P16 | exact P17 | exact P18 | exact P19 | exact P20 | exact P21 | exact P22 | exact P23)) | (apply Part.flat; simp only [List.cons_append, List.nil_append]) | (apply Part.nilc))) ?_
  refine SP_draw 13 [(0, 0), (1, 0), (2, 0), (7, 0), (8, 0), (9, 0), (3, 1), (4, 0), (5, 0), (6, 1), (10, 1), (12, 1), (11, 2), (13, 3), (14, 3)] mixed (by kernel_rfl) (fun _ _ _ _ _ h => h) (Part.refl _) ?_
  refine SPO_p rfl (y_move rfl) rfl ?_
  refine SPO_p rfl (y_nil rfl) rfl ?_
  refine SPO_p rfl (y_fa fld_30_0 rfl) rfl ?_
  refine SPO_p rfl (y_move rfl) rfl ?_
  refine SPO_p rfl (y_nil rfl) rfl ?_
  refine SPO_p rfl (y_fa fld_37_3 rfl) rfl ?_
  refine SPO_h rfl (y_load Tryz.isAgg28 rfl (by repeat (first | exact Cell.head rfl | apply Cell.tail))) rfl ?_
  refine SPO_p rfl (y_nil rfl) rfl ?_
  refine SPO_p rfl (y_fa fld_49_2 rfl) rfl ?_
  refine SPO_h rfl (y_load Tryz.isAgg47 rfl (by repeat (first | exact Cell.head rfl | apply Cell.tail))) rfl ?_
  refine SPO_h rfl (y_load Tryz.isAgg35 rfl (by repeat (first | exact Cell.head rfl | apply Cell.tail))) rfl ?_
  refine SPO_h rfl (y_loads Tryz.isAgg43 Tryz.sizeOf43 rfl rfl (by repeat (first | exact Cells.all _ | exact Cells.head rfl | apply Cells.tail))) rfl ?_
  refine SPO_a rfl rfl (SP1_append el_35 (.inl Tryz.underlying35) rfl rfl (⟨rfl, .inl ⟨rfl, rfl, rfl, rfl⟩⟩ : Arr 110 2 none 0 0 [] []) (by first | exact P0 | exact P1 | exact P2 | exact P3 | exact P4 | exact P5 | exact P6 | exact P7 | exact P8 | exact P9 | exact P10 | exact P11 | exact P12 | exact P13 | exact P14 | exact P15 | exact P16 | exact P17 | exact P18 | exact P19 | exact P20 | exact P21 | exact P22 | exact P23) (Arr.src hav (fun p hp => List.mem_flatten.2 ⟨sv, by simp, hp⟩)) (vals_one _) (by omega) rfl ?_)
  intro va2 vc2 sa2 hAr
  refine ⟨⟨_, (by repeat (first | exact Part.nil _ | (apply Part.cons; (first | exact P0 | exact P1 | exact P2 | exact P3 | exact P4 | exact P5 | exact P6 | exact P7 | exact P8 | exact P9 | exact P10 | exact P11 | exact P12 | exact P13 | exact P14 | exact P15 | exact P16 | exact P17 | exact P18 | exact P19 | exact P20 | exact P21 | exact P22 | exact P23)) | (apply Part.flat; simp only [List.cons_append, List.nil_append]) | (apply Part.nilc)))⟩, ?_⟩
  have hAr2 : Arr 110 2 va2 g.args.length vc2 (g.args.flatMap valV) sa2 := by simpa using hAr
  rw [Nat.zero_add]
  refine SPO_z (k := 0) rfl rfl (SP1_call (law_Do x pb kb pfa ⟨ok, oa, ob, oc, os, ot⟩ hkind hO.b.2 hO.t (L.Gd T.P T.mem ⟨ok, oa, ob, oc, os, ot⟩ g.args) (L.mu T.P T.mem ⟨ok, oa, ob, oc, os, ot⟩ g.args) (fun m h => L.pre _ _ _ _ m hT hO h) (fun m m' h1 h2 => L.step _ _ _ _ m m' hT hO h1 h2) T.P 0 T.mem g.args va2 vc2 sa2 hAr2 T.high sp sk hp0 hk (L.sg _ _ hT _).1 (L.sg _ _ hT _).2.2.2 hal (fun h => L.start _ _ _ _ hT hO hA h) gs hgs) Tryz.call40 rfl rfl (by repeat (first | exact Part.nil _ | (apply Part.cons; (first | exact P0 | exact P1 | exact P2 | exact P3 | exact P4 | exact P5 | exact P6 | exact P7 | exact P8 | exact P9 | exact P10 | exact P11 | exact P12 | exact P13 | exact P14 | exact P15 | exact P16 | exact P17 | exact P18 | exact P19 | exact P20 | exact P21 | exact P22 | exact P23)) | (apply Part.flat; simp only [List.cons_append, List.nil_append]) | (apply Part.nilc))) ?_)
  rintro v post H' ⟨r, sp2, sk2, hr, rfl, rfl, hp2, hk2⟩ hH
  try simp only [List.cons_append, List.nil_append] at hH
  subst hH
  refine SPO_z (k := 0) rfl rfl (SP1_storeAll Tryz.sizeOf53 rfl rfl rfl rfl rfl (by first | exact U0 | exact U1 | exact U2 | exact U3 | exact U4 | exact U5 | exact U6 | exact U7 | exact U8 | exact U9 | exact U10 | exact U11 | exact U12 | exact U13 | exact U14 | exact U15 | exact U16 | exact U17 | exact U18 | exact U19 | exact U20 | exact U21 | exact U22 | exact U23) (by rfl) ?_)
  refine SPO_nil ?_
  refine thenP_n ?_
  refine SP_ret ?_
  refine inBlockP_ret (thenP_ret (bodyP_ret (H' := [blk rb 30 [.pointer (some ⟨tb, 0, none⟩)], blk tb 49 [(.pointer (some ⟨pb, 0, none⟩)), (.pointer (some ⟨kb, 0, none⟩)), .pointer (some ⟨x, 0, none⟩)], blk x 93 [(.pointer (some ⟨pb, 0, none⟩)), (.pointer (some ⟨kb, 0, none⟩)), .slice none 0 0, .slice none 0 0, I 0, I (r.high)], sp2, sk2, List.flatten [blk gb 37 [.pointer (some ⟨mb, 0, none⟩), .pointer (some ⟨mb2, 0, none⟩), .slice ca g.code.length cc, .slice aa g.args.length ac], s2, sc, sv], sm, gs]) (ResC rfl rfl Tryz.isAgg53 Tryz.sizeOf53 rfl (by repeat (first | exact Cells.all _ | exact Cells.head rfl | apply Cells.tail))) (by repeat (first | exact Part.nil _ | (apply Part.cons; (first | exact P0 | exact P1 | exact P2 | exact P3 | exact P4 | exact P5 | exact P6 | exact P7 | exact P8 | exact P9 | exact P10 | exact P11 | exact P12 | exact P13 | exact P14 | exact P15 | exact P16 | exact P17 | exact P18 | exact P19 | exact P20 | exact P21 | exact P22 | exact P23)) | (apply Part.flat; simp only [List.cons_append, List.nil_append]) | (apply Part.nilc))) ?_))
  exact ⟨ansOf r, ⟨r.P, r.steps, r.mem, r.high⟩, _, .inr (.inl ⟨hkind, r, hr, rfl, rfl⟩), rfl, rfl, tb, pb, kb, x, pfa, sp2, sk2, rfl, hp2, hk2⟩

end Go.Sl
