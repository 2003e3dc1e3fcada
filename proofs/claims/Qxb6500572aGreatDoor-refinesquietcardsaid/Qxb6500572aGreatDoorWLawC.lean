/- Walks: tower.Link, towerlaw.Show, Check, Reg (made by program out of short notes) -/
import Derived.Test.Qxb6500572aGreatDoorWLawB
namespace Go.Sl
open Go Go.Wl Go.Proofs
set_option maxRecDepth 100000
set_option linter.unusedVariables false
set_option linter.unusedSimpArgs false
def mem0 (m : Mod) : Mem := ⟨List.replicate (8 * m.min.toNat) 0, m.max⟩
theorem load_mem (m : Mod) : (loadM m).1.min = m.min ∧ (loadM m).1.max = m.max ∧ (loadM m).1.nimp = m.imports.length := by
  unfold loadM; dsimp only; split <;> exact ⟨rfl, rfl, rfl⟩
theorem link_new_ok (b : Nat) (m : Mod) (s : Seg) (hm : isMod b m s) (ok : ModOk m) (he : (loadM m).2.2.2 = 0) : Spec Tryz.prog 30 [.pointer (some ⟨b, 0, none⟩)] [s] (Ret fun v H => ∃ pb fa sp, v = .tuple #[.pointer (some ⟨pb, 0, none⟩), .nilIface] ∧ H = [sp, s] ∧ isProg pb fa (loadM m).1 0 sp) :=
  (prep_New b m s hm ok).mono fun x H h => by
    cases x with
    | returned v => exact h.1 he
    | panicked c => exact h
    | outgrown => exact h
theorem link_new_err (b : Nat) (m : Mod) (s : Seg) (hm : isMod b m s) (ok : ModOk m) (he : (loadM m).2.2.2 ≠ 0) : Spec Tryz.prog 30 [.pointer (some ⟨b, 0, none⟩)] [s] (Ret fun v H => ∃ eb, v = .tuple #[.pointer none, .iface 123 (.pointer (some ⟨eb, 0, none⟩))] ∧ H = [blk eb 125 [I (loadM m).2.1, I (loadM m).2.2.1, .iface 51 (I (loadM m).2.2.2)], s]) :=
  (prep_New b m s hm ok).mono fun x H h => by
    cases x with
    | returned v => exact h.2 he
    | panicked c => exact h
    | outgrown => exact h
theorem link_mach (m : Mod) (ok : ModOk m) : Spec Tryz.prog 32 [I (loadM m).1.min, I (loadM m).1.max] [] (Ret fun v H => ∃ b s, v = .tuple #[.pointer (some ⟨b, 0, none⟩), .nilIface] ∧ H = [s] ∧ isMach b (mem0 m) s) := by
  obtain ⟨h1, h2, h3⟩ := ok.mem
  have := mach_New m.min.toNat m.max.toNat (by omega) (by omega)
  rw [(load_mem m).1, (load_mem m).2.1]
  rw [show ((m.min.toNat : Nat) : Int) = m.min by omega, show ((m.max.toNat : Nat) : Int) = m.max by omega] at this
  exact this

theorem link_ok (mb : Nat) (m : Mod) (s : Seg) (hm : isMod mb m s) (ok : ModOk m) (he : (loadM m).2.2.2 = 0) : Spec Tryz.prog 11 [.pointer (some ⟨mb, 0, none⟩)] [s] (Ret fun v H => ∃ tb pb kb x pfa sp sk, v = .tuple #[.pointer (some ⟨tb, 0, none⟩), .nilIface] ∧ H = [blk tb 49 [(.pointer (some ⟨pb, 0, none⟩)), (.pointer (some ⟨kb, 0, none⟩)), .pointer (some ⟨x, 0, none⟩)], blk x 93 [(.pointer (some ⟨pb, 0, none⟩)), (.pointer (some ⟨kb, 0, none⟩)), .slice none 0 0, .slice none 0 0, I 0, I 0], sp, sk, s] ∧ isProg pb pfa (loadM m).1 0 sp ∧ isMach kb (mem0 m) sk) := by
  refine Spec_enter Tryz.func11 rfl Tryz.ntmps11 rfl ?_
  show SP _ _ _ _ _ [(0, _)] _
  refine SP_seq ?_
  refine SP_region ?_
  refine SPL_y (y_assign rfl) rfl ?_
  refine SPL_y (y_assign rfl) rfl ?_
  refine SPL_nil ?_
  refine thenP_n ?_
  refine SP_seq ?_
  refine SP_region ?_
  refine SPL_y (y_move rfl) rfl ?_
  refine SPL_one rfl (SP1_call (link_new_ok mb m s hm ok he) Tryz.call30 rfl rfl (by repeat (first | exact Part.nil _ | (apply Part.cons; (first | exact P0 | exact P1 | exact P2 | exact P3 | exact P4 | exact P5 | exact P6 | exact P7 | exact P8 | exact P9 | exact P10 | exact P11 | exact P12 | exact P13 | exact P14 | exact P15 | exact P16 | exact P17 | exact P18 | exact P19 | exact P20 | exact P21 | exact P22 | exact P23)) | (apply Part.flat; simp only [List.cons_append, List.nil_append]) | (apply Part.nilc))) ?_)
  rintro v post H' ⟨pb, pfa, sp, rfl, rfl, hp⟩ hH
  try simp only [List.cons_append, List.nil_append] at hH
  subst hH
  refine SPL_y (y_move rfl) rfl ?_
  refine SPL_y (y_ext rfl rfl) rfl ?_
  refine SPL_y (y_ext rfl rfl) rfl ?_
  refine SPL_y (y_assign rfl) rfl ?_
  refine SPL_y (y_assign rfl) rfl ?_
  refine SPL_nil ?_
  refine thenP_n ?_
  refine SP_seq ?_
  refine SP_seq ?_
  refine SP_region ?_
  refine SPL_y (y_move rfl) rfl ?_
  refine SPL_y (y_ine_nil (c := false) Tryz.underlying39 rfl rfl) rfl ?_
  refine SPL_nil ?_
  refine thenP_n ?_
  refine SP_cond_f rfl ?_
  refine SP_skip ?_
  refine thenP_n ?_
  refine SP_seq ?_
  refine SP_region ?_
  refine SPL_y (y_move rfl) rfl ?_
  refine SPL_one rfl (SP1_call (prep_Mem pb pfa _ 0 sp hp) Tryz.call31 rfl rfl (by repeat (first | exact Part.nil _ | (apply Part.cons; (first | exact P0 | exact P1 | exact P2 | exact P3 | exact P4 | exact P5 | exact P6 | exact P7 | exact P8 | exact P9 | exact P10 | exact P11 | exact P12 | exact P13 | exact P14 | exact P15 | exact P16 | exact P17 | exact P18 | exact P19 | exact P20 | exact P21 | exact P22 | exact P23)) | (apply Part.flat; simp only [List.cons_append, List.nil_append]) | (apply Part.nilc))) ?_)
  rintro v post H' ⟨rfl, rfl⟩ hH
  try simp only [List.cons_append, List.nil_append] at hH
  subst hH
  refine SPL_y (y_move rfl) rfl ?_
  refine SPL_y (y_ext rfl rfl) rfl ?_
  refine SPL_y (y_ext rfl rfl) rfl ?_
  refine SPL_y (y_assign rfl) rfl ?_
  refine SPL_y (y_assign rfl) rfl ?_
  refine SPL_nil ?_
  refine thenP_n ?_
  refine SP_seq ?_
  refine SP_region ?_
  refine SPL_y (y_move rfl) rfl ?_
  refine SPL_y (y_move rfl) rfl ?_
  refine SPL_one rfl (SP1_call (link_mach m ok) Tryz.call32 rfl rfl (by repeat (first | exact Part.nil _ | (apply Part.cons; (first | exact P0 | exact P1 | exact P2 | exact P3 | exact P4 | exact P5 | exact P6 | exact P7 | exact P8 | exact P9 | exact P10 | exact P11 | exact P12 | exact P13 | exact P14 | exact P15 | exact P16 | exact P17 | exact P18 | exact P19 | exact P20 | exact P21 | exact P22 | exact P23)) | (apply Part.flat; simp only [List.cons_append, List.nil_append]) | (apply Part.nilc))) ?_)
  rintro v post H' ⟨kb, sk, rfl, rfl, hk⟩ hH
  try simp only [List.cons_append, List.nil_append] at hH
  subst hH
  refine SPL_y (y_move rfl) rfl ?_
  refine SPL_y (y_ext rfl rfl) rfl ?_
  refine SPL_y (y_ext rfl rfl) rfl ?_
  refine SPL_y (y_assign rfl) rfl ?_
  refine SPL_y (y_assign rfl) rfl ?_
  refine SPL_nil ?_
  refine thenP_n ?_
  refine SP_seq ?_
  refine SP_seq ?_
  refine SP_region ?_
  refine SPL_y (y_move rfl) rfl ?_
  refine SPL_y (y_ine_nil (c := false) Tryz.underlying39 rfl rfl) rfl ?_
  refine SPL_nil ?_
  refine thenP_n ?_
  refine SP_cond_f rfl ?_
  refine SP_skip ?_
  refine thenP_n ?_
  refine SP_seq ?_
  refine SP_region ?_
  refine SPL_y (y_move rfl) rfl ?_
  refine SPL_y (y_move rfl) rfl ?_
  refine SPL_y (y_move rfl) rfl ?_
  refine SPL_y (y_move rfl) rfl ?_
  refine SPL_one rfl (SP1_call (run_New pb kb) Tryz.call33 rfl rfl (by repeat (first | exact Part.nil _ | (apply Part.cons; (first | exact P0 | exact P1 | exact P2 | exact P3 | exact P4 | exact P5 | exact P6 | exact P7 | exact P8 | exact P9 | exact P10 | exact P11 | exact P12 | exact P13 | exact P14 | exact P15 | exact P16 | exact P17 | exact P18 | exact P19 | exact P20 | exact P21 | exact P22 | exact P23)) | (apply Part.flat; simp only [List.cons_append, List.nil_append]) | (apply Part.nilc))) ?_)
  rintro v post H' ⟨x, rfl, rfl⟩ hH
  try simp only [List.cons_append, List.nil_append] at hH
  subst hH
  refine SPL_y (y_build B49 rfl rfl (by simp only [fillL, List.foldl_cons, List.foldl_nil, List.set_cons_zero, List.set_cons_succ]; exact rfl)) rfl ?_
  refine SPL_one rfl (SP1_box rfl rfl rfl ?_)
  intro b37
  refine SPL_y (y_assign rfl) rfl ?_
  refine SPL_y (y_assign rfl) rfl ?_
  refine SPL_nil ?_
  refine thenP_n ?_
  refine SP_ret ?_
  refine bodyP_ret (H' := [blk b37 49 [(.pointer (some ⟨pb, 0, none⟩)), (.pointer (some ⟨kb, 0, none⟩)), .pointer (some ⟨x, 0, none⟩)], blk x 93 [(.pointer (some ⟨pb, 0, none⟩)), (.pointer (some ⟨kb, 0, none⟩)), .slice none 0 0, .slice none 0 0, I 0, I 0], sp, sk, s]) (Res2 rfl rfl rfl) (by repeat (first | exact Part.nil _ | (apply Part.cons; (first | exact P0 | exact P1 | exact P2 | exact P3 | exact P4 | exact P5 | exact P6 | exact P7 | exact P8 | exact P9 | exact P10 | exact P11 | exact P12 | exact P13 | exact P14 | exact P15 | exact P16 | exact P17 | exact P18 | exact P19 | exact P20 | exact P21 | exact P22 | exact P23)) | (apply Part.flat; simp only [List.cons_append, List.nil_append]) | (apply Part.nilc))) ?_
  exact ⟨_, _, _, _, _, _, _, rfl, rfl, hp, hk⟩

theorem link_err (mb : Nat) (m : Mod) (s : Seg) (hm : isMod mb m s) (ok : ModOk m) (he : (loadM m).2.2.2 ≠ 0) : Spec Tryz.prog 11 [.pointer (some ⟨mb, 0, none⟩)] [s] (Ret fun v H => ∃ eb, v = .tuple #[.pointer none, .iface 123 (.pointer (some ⟨eb, 0, none⟩))] ∧ H = [blk eb 125 [I (loadM m).2.1, I (loadM m).2.2.1, .iface 51 (I (loadM m).2.2.2)], s]) := by
  refine Spec_enter Tryz.func11 rfl Tryz.ntmps11 rfl ?_
  show SP _ _ _ _ _ [(0, _)] _
  refine SP_seq ?_
  refine SP_region ?_
  refine SPL_y (y_assign rfl) rfl ?_
  refine SPL_y (y_assign rfl) rfl ?_
  refine SPL_nil ?_
  refine thenP_n ?_
  refine SP_seq ?_
  refine SP_region ?_
  refine SPL_y (y_move rfl) rfl ?_
  refine SPL_one rfl (SP1_call (link_new_err mb m s hm ok he) Tryz.call30 rfl rfl (by repeat (first | exact Part.nil _ | (apply Part.cons; (first | exact P0 | exact P1 | exact P2 | exact P3 | exact P4 | exact P5 | exact P6 | exact P7 | exact P8 | exact P9 | exact P10 | exact P11 | exact P12 | exact P13 | exact P14 | exact P15 | exact P16 | exact P17 | exact P18 | exact P19 | exact P20 | exact P21 | exact P22 | exact P23)) | (apply Part.flat; simp only [List.cons_append, List.nil_append]) | (apply Part.nilc))) ?_)
  rintro v post H' ⟨eb, rfl, rfl⟩ hH
  try simp only [List.cons_append, List.nil_append] at hH
  subst hH
  refine SPL_y (y_move rfl) rfl ?_
  refine SPL_y (y_ext rfl rfl) rfl ?_
  refine SPL_y (y_ext rfl rfl) rfl ?_
  refine SPL_y (y_assign rfl) rfl ?_
  refine SPL_y (y_assign rfl) rfl ?_
  refine SPL_nil ?_
  refine thenP_n ?_
  refine SP_seq ?_
  refine SP_seq ?_
  refine SP_region ?_
  refine SPL_y (y_move rfl) rfl ?_
  refine SPL_y (y_ine_nil (c := true) Tryz.underlying39 rfl rfl) rfl ?_
  refine SPL_nil ?_
  refine thenP_n ?_
  refine SP_cond_t rfl ?_
  refine SP_seq ?_
  refine SP_region ?_
  refine SPL_y (y_move rfl) rfl ?_
  refine SPL_y (y_assign rfl) rfl ?_
  refine SPL_y (y_assign rfl) rfl ?_
  refine SPL_nil ?_
  refine thenP_n ?_
  refine SP_ret ?_
  refine thenP_ret (bodyP_ret (H' := [blk eb 125 [I (loadM m).2.1, I (loadM m).2.2.1, .iface 51 (I (loadM m).2.2.2)], s]) (Res2 rfl rfl rfl) (by repeat (first | exact Part.nil _ | (apply Part.cons; (first | exact P0 | exact P1 | exact P2 | exact P3 | exact P4 | exact P5 | exact P6 | exact P7 | exact P8 | exact P9 | exact P10 | exact P11 | exact P12 | exact P13 | exact P14 | exact P15 | exact P16 | exact P17 | exact P18 | exact P19 | exact P20 | exact P21 | exact P22 | exact P23)) | (apply Part.flat; simp only [List.cons_append, List.nil_append]) | (apply Part.nilc))) ?_)
  exact ⟨_, rfl, rfl⟩

theorem law_Show (rb tb pb kb x : Nat) (pfa : Option Addr) (P : Prog) (steps : Int) (mem : Mem) (high : Int) (sp sk : Seg) (hp : isProg pb pfa P steps sp) (hk : isMach kb mem sk) (hB : ProgB P) (hl : (showProg P).length ≤ 1000000000) (hl2 : (showMem mem).length ≤ 1000000000) : Spec Tryz.prog 27 [.pointer (some ⟨rb, 0, none⟩)] [blk rb 30 [.pointer (some ⟨tb, 0, none⟩)], blk tb 49 [(.pointer (some ⟨pb, 0, none⟩)), (.pointer (some ⟨kb, 0, none⟩)), .pointer (some ⟨x, 0, none⟩)], blk x 93 [(.pointer (some ⟨pb, 0, none⟩)), (.pointer (some ⟨kb, 0, none⟩)), .slice none 0 0, .slice none 0 0, I 0, I high], sp, sk] (Ret fun v H => v = S (showProg P ++ [124] ++ showMem mem) ∧ H = [blk rb 30 [.pointer (some ⟨tb, 0, none⟩)], blk tb 49 [(.pointer (some ⟨pb, 0, none⟩)), (.pointer (some ⟨kb, 0, none⟩)), .pointer (some ⟨x, 0, none⟩)], blk x 93 [(.pointer (some ⟨pb, 0, none⟩)), (.pointer (some ⟨kb, 0, none⟩)), .slice none 0 0, .slice none 0 0, I 0, I high], sp, sk]) := by
  refine Spec_enter Tryz.func27 rfl Tryz.ntmps27 rfl ?_
  show SP _ _ _ _ _ [(0, _)] _
  refine SP_seq ?_
  refine SP_region ?_
  refine SPL_y (y_assign rfl) rfl ?_
  refine SPL_nil ?_
  refine thenP_n ?_
  refine SP_seq ?_
  refine SP_region ?_
  refine SPL_y (y_move rfl) rfl ?_
  refine SPL_y (y_nil rfl) rfl ?_
  refine SPL_y (y_fa fld_30_0 rfl) rfl ?_
  refine SPL_y (y_load Tryz.isAgg28 rfl (by repeat (first | exact Cell.head rfl | apply Cell.tail))) rfl ?_
  refine SPL_y (y_nil rfl) rfl ?_
  refine SPL_y (y_fa fld_49_0 rfl) rfl ?_
  refine SPL_y (y_load Tryz.isAgg45 rfl (by repeat (first | exact Cell.head rfl | apply Cell.tail))) rfl ?_
  refine SPL_one rfl (SP1_call (prep_Show pb pfa P steps sp hp hB) Tryz.call48 rfl rfl (by repeat (first | exact Part.nil _ | (apply Part.cons; (first | exact P0 | exact P1 | exact P2 | exact P3 | exact P4 | exact P5 | exact P6 | exact P7 | exact P8 | exact P9 | exact P10 | exact P11 | exact P12 | exact P13 | exact P14 | exact P15 | exact P16 | exact P17 | exact P18 | exact P19 | exact P20 | exact P21 | exact P22 | exact P23)) | (apply Part.flat; simp only [List.cons_append, List.nil_append]) | (apply Part.nilc))) ?_)
  rintro v post H' ⟨rfl, rfl⟩ hH
  try simp only [List.cons_append, List.nil_append] at hH
  subst hH
  refine SPL_y (y_assign rfl) rfl ?_
  refine SPL_nil ?_
  refine thenP_n ?_
  refine SP_seq ?_
  refine SP_region ?_
  refine SPL_y (y_move rfl) rfl ?_
  refine SPL_y (y_cat rfl rfl (by first | omega | (simp; omega))) rfl ?_
  refine SPL_y (y_move rfl) rfl ?_
  refine SPL_y (y_nil rfl) rfl ?_
  refine SPL_y (y_fa fld_30_0 rfl) rfl ?_
  refine SPL_y (y_load Tryz.isAgg28 rfl (by repeat (first | exact Cell.head rfl | apply Cell.tail))) rfl ?_
  refine SPL_y (y_nil rfl) rfl ?_
  refine SPL_y (y_fa fld_49_2 rfl) rfl ?_
  refine SPL_y (y_load Tryz.isAgg47 rfl (by repeat (first | exact Cell.head rfl | apply Cell.tail))) rfl ?_
  refine SPL_one rfl (SP1_call (run_Show x pb kb high mem sk hk) Tryz.call13 rfl rfl (by repeat (first | exact Part.nil _ | (apply Part.cons; (first | exact P0 | exact P1 | exact P2 | exact P3 | exact P4 | exact P5 | exact P6 | exact P7 | exact P8 | exact P9 | exact P10 | exact P11 | exact P12 | exact P13 | exact P14 | exact P15 | exact P16 | exact P17 | exact P18 | exact P19 | exact P20 | exact P21 | exact P22 | exact P23)) | (apply Part.flat; simp only [List.cons_append, List.nil_append]) | (apply Part.nilc))) ?_)
  rintro v post H' ⟨rfl, rfl⟩ hH
  try simp only [List.cons_append, List.nil_append] at hH
  subst hH
  refine SPL_y (y_cat rfl rfl (by first | omega | (simp; omega))) rfl ?_
  refine SPL_y (y_assign rfl) rfl ?_
  refine SPL_nil ?_
  refine thenP_n ?_
  refine SP_ret ?_
  refine bodyP_ret (H' := [blk rb 30 [.pointer (some ⟨tb, 0, none⟩)], blk tb 49 [(.pointer (some ⟨pb, 0, none⟩)), (.pointer (some ⟨kb, 0, none⟩)), .pointer (some ⟨x, 0, none⟩)], blk x 93 [(.pointer (some ⟨pb, 0, none⟩)), (.pointer (some ⟨kb, 0, none⟩)), .slice none 0 0, .slice none 0 0, I 0, I high], sp, sk]) (Res1 rfl rfl) (by repeat (first | exact Part.nil _ | (apply Part.cons; (first | exact P0 | exact P1 | exact P2 | exact P3 | exact P4 | exact P5 | exact P6 | exact P7 | exact P8 | exact P9 | exact P10 | exact P11 | exact P12 | exact P13 | exact P14 | exact P15 | exact P16 | exact P17 | exact P18 | exact P19 | exact P20 | exact P21 | exact P22 | exact P23)) | (apply Part.flat; simp only [List.cons_append, List.nil_append]) | (apply Part.nilc))) ?_
  exact ⟨rfl, rfl⟩

theorem law_Check (rb tb pb kb x : Nat) (pfa : Option Addr) (P : Prog) (steps : Int) (mem : Mem) (high : Int) (sp sk : Seg) (hp : isProg pb pfa P steps sp) (hk : isMach kb mem sk) (hB : ProgB P) : Spec Tryz.prog 29 [.pointer (some ⟨rb, 0, none⟩)] [blk rb 30 [.pointer (some ⟨tb, 0, none⟩)], blk tb 49 [(.pointer (some ⟨pb, 0, none⟩)), (.pointer (some ⟨kb, 0, none⟩)), .pointer (some ⟨x, 0, none⟩)], blk x 93 [(.pointer (some ⟨pb, 0, none⟩)), (.pointer (some ⟨kb, 0, none⟩)), .slice none 0 0, .slice none 0 0, I 0, I high], sp, sk] (Ret fun v H => (∃ b, v = .bool b) ∧ H = [blk rb 30 [.pointer (some ⟨tb, 0, none⟩)], blk tb 49 [(.pointer (some ⟨pb, 0, none⟩)), (.pointer (some ⟨kb, 0, none⟩)), .pointer (some ⟨x, 0, none⟩)], blk x 93 [(.pointer (some ⟨pb, 0, none⟩)), (.pointer (some ⟨kb, 0, none⟩)), .slice none 0 0, .slice none 0 0, I 0, I high], sp, sk]) := by
  refine Spec_enter Tryz.func29 rfl Tryz.ntmps29 rfl ?_
  show SP _ _ _ _ _ [(0, _)] _
  refine SP_seq ?_
  refine SP_region ?_
  refine SPL_y (y_assign rfl) rfl ?_
  refine SPL_nil ?_
  refine thenP_n ?_
  refine SP_seq ?_
  refine SP_seq ?_
  refine SP_region ?_
  refine SPL_y (y_move rfl) rfl ?_
  refine SPL_y (y_nil rfl) rfl ?_
  refine SPL_y (y_fa fld_30_0 rfl) rfl ?_
  refine SPL_y (y_load Tryz.isAgg28 rfl (by repeat (first | exact Cell.head rfl | apply Cell.tail))) rfl ?_
  refine SPL_y (y_nil rfl) rfl ?_
  refine SPL_y (y_fa fld_49_0 rfl) rfl ?_
  refine SPL_y (y_load Tryz.isAgg45 rfl (by repeat (first | exact Cell.head rfl | apply Cell.tail))) rfl ?_
  refine SPL_one rfl (SP1_call (prep_Check pb pfa P steps sp hp hB) Tryz.call51 rfl rfl (by repeat (first | exact Part.nil _ | (apply Part.cons; (first | exact P0 | exact P1 | exact P2 | exact P3 | exact P4 | exact P5 | exact P6 | exact P7 | exact P8 | exact P9 | exact P10 | exact P11 | exact P12 | exact P13 | exact P14 | exact P15 | exact P16 | exact P17 | exact P18 | exact P19 | exact P20 | exact P21 | exact P22 | exact P23)) | (apply Part.flat; simp only [List.cons_append, List.nil_append]) | (apply Part.nilc))) ?_)
  rintro v post H' ⟨⟨bb, rfl⟩, rfl⟩ hH
  try simp only [List.cons_append, List.nil_append] at hH
  subst hH
  refine SPL_y (y_not rfl) rfl ?_
  refine SPL_nil ?_
  refine thenP_n ?_
  refine SP_cond_b rfl ?_ ?_
  · intro hc11
    refine SP_seq ?_
    refine SP_region ?_
    refine SPL_y (y_assign rfl) rfl ?_
    refine SPL_nil ?_
    refine thenP_n ?_
    refine SP_ret ?_
    refine thenP_ret (bodyP_ret (H' := [blk rb 30 [.pointer (some ⟨tb, 0, none⟩)], blk tb 49 [(.pointer (some ⟨pb, 0, none⟩)), (.pointer (some ⟨kb, 0, none⟩)), .pointer (some ⟨x, 0, none⟩)], blk x 93 [(.pointer (some ⟨pb, 0, none⟩)), (.pointer (some ⟨kb, 0, none⟩)), .slice none 0 0, .slice none 0 0, I 0, I high], sp, sk]) (Res1 rfl rfl) (by repeat (first | exact Part.nil _ | (apply Part.cons; (first | exact P0 | exact P1 | exact P2 | exact P3 | exact P4 | exact P5 | exact P6 | exact P7 | exact P8 | exact P9 | exact P10 | exact P11 | exact P12 | exact P13 | exact P14 | exact P15 | exact P16 | exact P17 | exact P18 | exact P19 | exact P20 | exact P21 | exact P22 | exact P23)) | (apply Part.flat; simp only [List.cons_append, List.nil_append]) | (apply Part.nilc))) ?_)
    exact ⟨⟨_, rfl⟩, rfl⟩
  intro hc11
  refine SP_skip ?_
  refine thenP_n ?_
  refine SP_seq ?_
  refine SP_seq ?_
  refine SP_region ?_
  refine SPL_y (y_move rfl) rfl ?_
  refine SPL_y (y_nil rfl) rfl ?_
  refine SPL_y (y_fa fld_30_0 rfl) rfl ?_
  refine SPL_y (y_load Tryz.isAgg28 rfl (by repeat (first | exact Cell.head rfl | apply Cell.tail))) rfl ?_
  refine SPL_y (y_nil rfl) rfl ?_
  refine SPL_y (y_fa fld_49_1 rfl) rfl ?_
  refine SPL_y (y_load Tryz.isAgg46 rfl (by repeat (first | exact Cell.head rfl | apply Cell.tail))) rfl ?_
  refine SPL_one rfl (SP1_call (mach_Check kb mem sk hk) Tryz.call52 rfl rfl (by repeat (first | exact Part.nil _ | (apply Part.cons; (first | exact P0 | exact P1 | exact P2 | exact P3 | exact P4 | exact P5 | exact P6 | exact P7 | exact P8 | exact P9 | exact P10 | exact P11 | exact P12 | exact P13 | exact P14 | exact P15 | exact P16 | exact P17 | exact P18 | exact P19 | exact P20 | exact P21 | exact P22 | exact P23)) | (apply Part.flat; simp only [List.cons_append, List.nil_append]) | (apply Part.nilc))) ?_)
  rintro v post H' ⟨rfl, rfl⟩ hH
  try simp only [List.cons_append, List.nil_append] at hH
  subst hH
  refine SPL_y (y_not_t rfl) rfl ?_
  refine SPL_nil ?_
  refine thenP_n ?_
  refine SP_cond_f rfl ?_
  refine SP_skip ?_
  refine thenP_n ?_
  refine SP_seq ?_
  refine SP_region ?_
  refine SPL_y (y_move rfl) rfl ?_
  refine SPL_y (y_nil rfl) rfl ?_
  refine SPL_y (y_fa fld_30_0 rfl) rfl ?_
  refine SPL_y (y_load Tryz.isAgg28 rfl (by repeat (first | exact Cell.head rfl | apply Cell.tail))) rfl ?_
  refine SPL_y (y_nil rfl) rfl ?_
  refine SPL_y (y_fa fld_49_2 rfl) rfl ?_
  refine SPL_y (y_load Tryz.isAgg47 rfl (by repeat (first | exact Cell.head rfl | apply Cell.tail))) rfl ?_
  refine SPL_one rfl (SP1_call (run_Check x pb kb high) Tryz.call53 rfl rfl (by repeat (first | exact Part.nil _ | (apply Part.cons; (first | exact P0 | exact P1 | exact P2 | exact P3 | exact P4 | exact P5 | exact P6 | exact P7 | exact P8 | exact P9 | exact P10 | exact P11 | exact P12 | exact P13 | exact P14 | exact P15 | exact P16 | exact P17 | exact P18 | exact P19 | exact P20 | exact P21 | exact P22 | exact P23)) | (apply Part.flat; simp only [List.cons_append, List.nil_append]) | (apply Part.nilc))) ?_)
  rintro v post H' ⟨rfl, rfl⟩ hH
  try simp only [List.cons_append, List.nil_append] at hH
  subst hH
  refine SPL_y (y_assign rfl) rfl ?_
  refine SPL_nil ?_
  refine thenP_n ?_
  refine SP_ret ?_
  refine bodyP_ret (H' := [blk rb 30 [.pointer (some ⟨tb, 0, none⟩)], blk tb 49 [(.pointer (some ⟨pb, 0, none⟩)), (.pointer (some ⟨kb, 0, none⟩)), .pointer (some ⟨x, 0, none⟩)], blk x 93 [(.pointer (some ⟨pb, 0, none⟩)), (.pointer (some ⟨kb, 0, none⟩)), .slice none 0 0, .slice none 0 0, I 0, I high], sp, sk]) (Res1 rfl rfl) (by repeat (first | exact Part.nil _ | (apply Part.cons; (first | exact P0 | exact P1 | exact P2 | exact P3 | exact P4 | exact P5 | exact P6 | exact P7 | exact P8 | exact P9 | exact P10 | exact P11 | exact P12 | exact P13 | exact P14 | exact P15 | exact P16 | exact P17 | exact P18 | exact P19 | exact P20 | exact P21 | exact P22 | exact P23)) | (apply Part.flat; simp only [List.cons_append, List.nil_append]) | (apply Part.nilc))) ?_
  exact ⟨⟨_, rfl⟩, rfl⟩

structure Rg where
  m : Mod
  code : List Ins
  args : List Val
def regStep (g : Rg) (o : Op1) : Rg :=
  if o.kind = 1 then { g with m := (addType g.m o.s o.t).1, args := argsStep g.args o }
  else if o.kind = 2 then { g with m := (addImport g.m o.a).1, args := argsStep g.args o }
  else if o.kind = 3 then { g with m := (setMem g.m o.a o.b).1, args := argsStep g.args o }
  else if o.kind = 4 then { g with code := if g.code.length ≤ 26 then g.code ++ [⟨o.a, o.b, o.s⟩] else g.code, args := argsStep g.args o }
  else if o.kind = 5 then { g with m := (addFunc g.m o.a o.s g.code).1, code := [], args := argsStep g.args o }
  else if o.kind = 6 then { g with m := Mod.empty, args := argsStep g.args o }
  else { g with args := argsStep g.args o }
def isRegs (gb : Nat) (mb : Nat) (g : Rg) (s sm : Seg) : Prop :=
  ∃ mb2 ca cc aa ac s2 sc sv, s = List.flatten [blk gb 37 [.pointer (some ⟨mb, 0, none⟩), .pointer (some ⟨mb2, 0, none⟩), .slice ca g.code.length cc, .slice aa g.args.length ac], s2, sc, sv] ∧ isMod mb g.m sm ∧ isMod mb2 g.m s2 ∧
    Arr 87 3 ca g.code.length cc (codeV g.code) sc ∧ Arr 110 2 aa g.args.length ac (g.args.flatMap valV) sv

theorem law_Reg (gb mb : Nat) (g : Rg) (s sm : Seg) (hg : isRegs gb mb g s sm) (o : Op1) (ok0 : ModOk g.m) (hcl : g.code.length ≤ 1000) (hal : g.args.length ≤ 1000) : Spec Tryz.prog 12 [.pointer (some ⟨gb, 0, none⟩), .agg (opV o).toArray] [s, sm] (Ret fun v H => ∃ mb' s' sm', v = .tuple #[] ∧ H = [s', sm'] ∧ isRegs gb mb' (regStep g o) s' sm') := by
  obtain ⟨mb2, ca, cc, aa, ac, s2, sc, sv, rfl, hm1, hm2, hcd, hav⟩ := hg
  obtain ⟨ok, oa, ob, oc, os, ot⟩ := o
  refine Spec_flat ?_
  simp only [List.cons_append, List.nil_append, opV]
  refine Spec_enter Tryz.func12 rfl Tryz.ntmps12 rfl ?_
  show SP _ _ _ _ _ [(0, _), (1, _)] _
  refine SP_seq ?_
  refine SP_region ?_
  refine SPL_one rfl (SP1_box rfl rfl rfl ?_)
  intro b3
  refine SPL_nil ?_
  refine thenP_n ?_
  refine SP_seq ?_
  refine SP_seq ?_
  refine SP_region ?_
  refine SPL_y (y_fa fld_43_0 rfl) rfl ?_
  refine SPL_y (y_load Tryz.isAgg3 rfl (by repeat (first | exact Cell.head rfl | apply Cell.tail))) rfl ?_
  refine SPL_nil ?_
  refine thenP_n ?_
  refine SP_block ?_
  refine SP_seq ?_
  refine SP_region ?_
  refine SPL_if (y_eql rfl rfl) rfl ?_ ?_
  · intro h2_0
    refine SPL_y (y_assign rfl) rfl ?_
    refine SPL_nil ?_
    refine thenP_n ?_
    refine SP_cond_t rfl ?_
    refine SP_seq ?_
    refine SP_draw 8 [(0, 0), (1, 0), (2, 0), (4, 0), (6, 0), (3, 1), (5, 1), (7, 1), (8, 3)] mixed (by kernel_rfl) (fun _ _ _ _ _ h => h) (Part.refl _) ?_
    refine SPO_p rfl (y_move rfl) rfl ?_
    refine SPO_p rfl (y_nil rfl) rfl ?_
    refine SPO_p rfl (y_fa fld_37_0 rfl) rfl ?_
    refine SPO_p rfl (y_fa fld_43_4 rfl) rfl ?_
    refine SPO_p rfl (y_fa fld_43_5 rfl) rfl ?_
    refine SPO_h rfl (y_load Tryz.isAgg32 rfl (by repeat (first | exact Cell.head rfl | apply Cell.tail))) rfl ?_
    refine SPO_h rfl (y_load Tryz.isAgg9 rfl (by repeat (first | exact Cell.head rfl | apply Cell.tail))) rfl ?_
    refine SPO_h rfl (y_load Tryz.isAgg9 rfl (by repeat (first | exact Cell.head rfl | apply Cell.tail))) rfl ?_
    refine SPO_z (k := 0) rfl rfl (SP1_call (modm_AddType mb g.m sm os ot hm1 ok0.rl) Tryz.call34 rfl rfl (by repeat (first | exact Part.nil _ | (apply Part.cons; (first | exact P0 | exact P1 | exact P2 | exact P3 | exact P4 | exact P5 | exact P6 | exact P7 | exact P8 | exact P9 | exact P10 | exact P11 | exact P12 | exact P13 | exact P14 | exact P15 | exact P16 | exact P17 | exact P18 | exact P19 | exact P20 | exact P21 | exact P22 | exact P23)) | (apply Part.flat; simp only [List.cons_append, List.nil_append]) | (apply Part.nilc))) ?_)
    rintro v post H' ⟨sm', rfl, rfl, hm1'⟩ hH
    try simp only [List.cons_append, List.nil_append] at hH
    subst hH
    refine SPO_nil ?_
    refine thenP_n ?_
    refine SP_draw 8 [(0, 0), (1, 0), (2, 0), (4, 0), (6, 0), (3, 1), (5, 1), (7, 1), (8, 3)] mixed (by kernel_rfl) (fun _ _ _ _ _ h => h) (Part.refl _) ?_
    refine SPO_p rfl (y_move rfl) rfl ?_
    refine SPO_p rfl (y_nil rfl) rfl ?_
    refine SPO_p rfl (y_fa fld_37_1 rfl) rfl ?_
    refine SPO_p rfl (y_fa fld_43_4 rfl) rfl ?_
    refine SPO_p rfl (y_fa fld_43_5 rfl) rfl ?_
    refine SPO_h rfl (y_load Tryz.isAgg32 rfl (by repeat (first | exact Cell.head rfl | apply Cell.tail))) rfl ?_
    refine SPO_h rfl (y_load Tryz.isAgg9 rfl (by repeat (first | exact Cell.head rfl | apply Cell.tail))) rfl ?_
    refine SPO_h rfl (y_load Tryz.isAgg9 rfl (by repeat (first | exact Cell.head rfl | apply Cell.tail))) rfl ?_
    refine SPO_z (k := 0) rfl rfl (SP1_call (modm_AddType mb2 g.m s2 os ot hm2 ok0.rl) Tryz.call34 rfl rfl (by repeat (first | exact Part.nil _ | (apply Part.cons; (first | exact P0 | exact P1 | exact P2 | exact P3 | exact P4 | exact P5 | exact P6 | exact P7 | exact P8 | exact P9 | exact P10 | exact P11 | exact P12 | exact P13 | exact P14 | exact P15 | exact P16 | exact P17 | exact P18 | exact P19 | exact P20 | exact P21 | exact P22 | exact P23)) | (apply Part.flat; simp only [List.cons_append, List.nil_append]) | (apply Part.nilc))) ?_)
    rintro v post H' ⟨s2', rfl, rfl, hm2'⟩ hH
    try simp only [List.cons_append, List.nil_append] at hH
    subst hH
    refine SPO_nil ?_
    refine inBlockP_n ?_
    refine thenP_n ?_
    refine SP_draw 6 [(0, 0), (1, 0), (2, 0), (3, 0), (4, 1), (5, 1), (6, 3), (7, 0), (8, 0), (9, 3)] mixed (by kernel_rfl) (fun _ _ _ _ _ h => h) (Part.refl _) ?_
    refine SPO_p rfl (y_move rfl) rfl ?_
    refine SPO_p rfl (y_move rfl) rfl ?_
    refine SPO_p rfl (y_nil rfl) rfl ?_
    refine SPO_p rfl (y_fa fld_37_3 rfl) rfl ?_
    refine SPO_h rfl (y_load Tryz.isAgg35 rfl (by repeat (first | exact Cell.head rfl | apply Cell.tail))) rfl ?_
    refine SPO_h rfl (y_loads Tryz.isAgg43 Tryz.sizeOf43 rfl rfl (by repeat (first | exact Cells.all _ | exact Cells.head rfl | apply Cells.tail))) rfl ?_
    refine SPO_z (k := 0) rfl rfl (SP1_call (law_Args aa ac g.args sv hav ⟨ok, oa, ob, oc, os, ot⟩) Tryz.call38 rfl rfl (by repeat (first | exact Part.nil _ | (apply Part.cons; (first | exact P0 | exact P1 | exact P2 | exact P3 | exact P4 | exact P5 | exact P6 | exact P7 | exact P8 | exact P9 | exact P10 | exact P11 | exact P12 | exact P13 | exact P14 | exact P15 | exact P16 | exact P17 | exact P18 | exact P19 | exact P20 | exact P21 | exact P22 | exact P23)) | (apply Part.flat; simp only [List.cons_append, List.nil_append]) | (apply Part.nilc))) ?_)
    rintro v post H' ⟨va2, vc2, sv2, rfl, rfl, hva⟩ hH
    try simp only [List.cons_append, List.nil_append] at hH
    subst hH
    refine SPO_p rfl (y_nil rfl) rfl ?_
    refine SPO_p rfl (y_fa fld_37_3 rfl) rfl ?_
    refine SPO_z (k := 0) rfl rfl (SP1_store Tryz.sizeOf35 rfl rfl rfl (by first | exact U0 | exact U1 | exact U2 | exact U3 | exact U4 | exact U5 | exact U6 | exact U7 | exact U8 | exact U9 | exact U10 | exact U11 | exact U12 | exact U13 | exact U14 | exact U15 | exact U16 | exact U17 | exact U18 | exact U19 | exact U20 | exact U21 | exact U22 | exact U23) (by rfl) ?_)
    refine SPO_nil ?_
    refine bodyP_end (H' := [List.flatten [blk gb 37 [.pointer (some ⟨mb, 0, none⟩), .pointer (some ⟨mb2, 0, none⟩), .slice ca g.code.length cc, .slice va2 (argsStep g.args ⟨ok, oa, ob, oc, os, ot⟩).length vc2], s2', sc, sv2], sm']) (Res0 rfl) (by repeat (first | exact Part.nil _ | (apply Part.cons; (first | exact P0 | exact P1 | exact P2 | exact P3 | exact P4 | exact P5 | exact P6 | exact P7 | exact P8 | exact P9 | exact P10 | exact P11 | exact P12 | exact P13 | exact P14 | exact P15 | exact P16 | exact P17 | exact P18 | exact P19 | exact P20 | exact P21 | exact P22 | exact P23)) | (apply Part.flat; simp only [List.cons_append, List.nil_append]) | (apply Part.nilc))) ?_
    unfold regStep
    dsimp only
    rw [if_pos h2_0]
    exact ⟨_, _, _, rfl, rfl, _, _, _, _, _, _, _, _, rfl, hm1', hm2', hcd, hva⟩
  intro h2_0
  refine SPL_y (y_assign rfl) rfl ?_
  refine SPL_nil ?_
  refine thenP_n ?_
  refine SP_cond_f rfl ?_
  refine SP_seq ?_
  refine SP_region ?_
  refine SPL_if (y_eql rfl rfl) rfl ?_ ?_
  · intro h5_0
    refine SPL_y (y_assign rfl) rfl ?_
    refine SPL_nil ?_
    refine thenP_n ?_
    refine SP_cond_t rfl ?_
    refine SP_seq ?_
    refine SP_draw 6 [(0, 0), (1, 0), (2, 0), (4, 0), (3, 1), (5, 1), (6, 3)] mixed (by kernel_rfl) (fun _ _ _ _ _ h => h) (Part.refl _) ?_
    refine SPO_p rfl (y_move rfl) rfl ?_
    refine SPO_p rfl (y_nil rfl) rfl ?_
    refine SPO_p rfl (y_fa fld_37_0 rfl) rfl ?_
    refine SPO_p rfl (y_fa fld_43_1 rfl) rfl ?_
    refine SPO_h rfl (y_load Tryz.isAgg32 rfl (by repeat (first | exact Cell.head rfl | apply Cell.tail))) rfl ?_
    refine SPO_h rfl (y_load Tryz.isAgg3 rfl (by repeat (first | exact Cell.head rfl | apply Cell.tail))) rfl ?_
    refine SPO_z (k := 0) rfl rfl (SP1_call (modm_AddImport mb g.m sm oa hm1) Tryz.call35 rfl rfl (by repeat (first | exact Part.nil _ | (apply Part.cons; (first | exact P0 | exact P1 | exact P2 | exact P3 | exact P4 | exact P5 | exact P6 | exact P7 | exact P8 | exact P9 | exact P10 | exact P11 | exact P12 | exact P13 | exact P14 | exact P15 | exact P16 | exact P17 | exact P18 | exact P19 | exact P20 | exact P21 | exact P22 | exact P23)) | (apply Part.flat; simp only [List.cons_append, List.nil_append]) | (apply Part.nilc))) ?_)
    rintro v post H' ⟨sm', rfl, rfl, hm1'⟩ hH
    try simp only [List.cons_append, List.nil_append] at hH
    subst hH
    refine SPO_nil ?_
    refine thenP_n ?_
    refine SP_draw 6 [(0, 0), (1, 0), (2, 0), (4, 0), (3, 1), (5, 1), (6, 3)] mixed (by kernel_rfl) (fun _ _ _ _ _ h => h) (Part.refl _) ?_
    refine SPO_p rfl (y_move rfl) rfl ?_
    refine SPO_p rfl (y_nil rfl) rfl ?_
    refine SPO_p rfl (y_fa fld_37_1 rfl) rfl ?_
    refine SPO_p rfl (y_fa fld_43_1 rfl) rfl ?_
    refine SPO_h rfl (y_load Tryz.isAgg32 rfl (by repeat (first | exact Cell.head rfl | apply Cell.tail))) rfl ?_
    refine SPO_h rfl (y_load Tryz.isAgg3 rfl (by repeat (first | exact Cell.head rfl | apply Cell.tail))) rfl ?_
    refine SPO_z (k := 0) rfl rfl (SP1_call (modm_AddImport mb2 g.m s2 oa hm2) Tryz.call35 rfl rfl (by repeat (first | exact Part.nil _ | (apply Part.cons; (first | exact P0 | exact P1 | exact P2 | exact P3 | exact P4 | exact P5 | exact P6 | exact P7 | exact P8 | exact P9 | exact P10 | exact P11 | exact P12 | exact P13 | exact P14 | exact P15 | exact P16 | exact P17 | exact P18 | exact P19 | exact P20 | exact P21 | exact P22 | exact P23)) | (apply Part.flat; simp only [List.cons_append, List.nil_append]) | (apply Part.nilc))) ?_)
    rintro v post H' ⟨s2', rfl, rfl, hm2'⟩ hH
    try simp only [List.cons_append, List.nil_append] at hH
    subst hH
    refine SPO_nil ?_
    refine inBlockP_n ?_
    refine thenP_n ?_
    refine SP_draw 6 [(0, 0), (1, 0), (2, 0), (3, 0), (4, 1), (5, 1), (6, 3), (7, 0), (8, 0), (9, 3)] mixed (by kernel_rfl) (fun _ _ _ _ _ h => h) (Part.refl _) ?_
    refine SPO_p rfl (y_move rfl) rfl ?_
    refine SPO_p rfl (y_move rfl) rfl ?_
    refine SPO_p rfl (y_nil rfl) rfl ?_
    refine SPO_p rfl (y_fa fld_37_3 rfl) rfl ?_
    refine SPO_h rfl (y_load Tryz.isAgg35 rfl (by repeat (first | exact Cell.head rfl | apply Cell.tail))) rfl ?_
    refine SPO_h rfl (y_loads Tryz.isAgg43 Tryz.sizeOf43 rfl rfl (by repeat (first | exact Cells.all _ | exact Cells.head rfl | apply Cells.tail))) rfl ?_
    refine SPO_z (k := 0) rfl rfl (SP1_call (law_Args aa ac g.args sv hav ⟨ok, oa, ob, oc, os, ot⟩) Tryz.call38 rfl rfl (by repeat (first | exact Part.nil _ | (apply Part.cons; (first | exact P0 | exact P1 | exact P2 | exact P3 | exact P4 | exact P5 | exact P6 | exact P7 | exact P8 | exact P9 | exact P10 | exact P11 | exact P12 | exact P13 | exact P14 | exact P15 | exact P16 | exact P17 | exact P18 | exact P19 | exact P20 | exact P21 | exact P22 | exact P23)) | (apply Part.flat; simp only [List.cons_append, List.nil_append]) | (apply Part.nilc))) ?_)
    rintro v post H' ⟨va2, vc2, sv2, rfl, rfl, hva⟩ hH
    try simp only [List.cons_append, List.nil_append] at hH
    subst hH
    refine SPO_p rfl (y_nil rfl) rfl ?_
    refine SPO_p rfl (y_fa fld_37_3 rfl) rfl ?_
    refine SPO_z (k := 0) rfl rfl (SP1_store Tryz.sizeOf35 rfl rfl rfl (by first | exact U0 | exact U1 | exact U2 | exact U3 | exact U4 | exact U5 | exact U6 | exact U7 | exact U8 | exact U9 | exact U10 | exact U11 | exact U12 | exact U13 | exact U14 | exact U15 | exact U16 | exact U17 | exact U18 | exact U19 | exact U20 | exact U21 | exact U22 | exact U23) (by rfl) ?_)
    refine SPO_nil ?_
    refine bodyP_end (H' := [List.flatten [blk gb 37 [.pointer (some ⟨mb, 0, none⟩), .pointer (some ⟨mb2, 0, none⟩), .slice ca g.code.length cc, .slice va2 (argsStep g.args ⟨ok, oa, ob, oc, os, ot⟩).length vc2], s2', sc, sv2], sm']) (Res0 rfl) (by repeat (first | exact Part.nil _ | (apply Part.cons; (first | exact P0 | exact P1 | exact P2 | exact P3 | exact P4 | exact P5 | exact P6 | exact P7 | exact P8 | exact P9 | exact P10 | exact P11 | exact P12 | exact P13 | exact P14 | exact P15 | exact P16 | exact P17 | exact P18 | exact P19 | exact P20 | exact P21 | exact P22 | exact P23)) | (apply Part.flat; simp only [List.cons_append, List.nil_append]) | (apply Part.nilc))) ?_
    unfold regStep
    dsimp only
    rw [if_neg h2_0, if_pos h5_0]
    exact ⟨_, _, _, rfl, rfl, _, _, _, _, _, _, _, _, rfl, hm1', hm2', hcd, hva⟩
  intro h5_0
  refine SPL_y (y_assign rfl) rfl ?_
  refine SPL_nil ?_
  refine thenP_n ?_
  refine SP_cond_f rfl ?_
  refine SP_seq ?_
  refine SP_region ?_
  refine SPL_if (y_eql rfl rfl) rfl ?_ ?_
  · intro h8_0
    refine SPL_y (y_assign rfl) rfl ?_
    refine SPL_nil ?_
    refine thenP_n ?_
    refine SP_cond_t rfl ?_
    refine SP_seq ?_
    refine SP_draw 8 [(0, 0), (1, 0), (2, 0), (4, 0), (6, 0), (3, 1), (5, 1), (7, 1), (8, 3)] mixed (by kernel_rfl) (fun _ _ _ _ _ h => h) (Part.refl _) ?_
    refine SPO_p rfl (y_move rfl) rfl ?_
    refine SPO_p rfl (y_nil rfl) rfl ?_
    refine SPO_p rfl (y_fa fld_37_0 rfl) rfl ?_
    refine SPO_p rfl (y_fa fld_43_1 rfl) rfl ?_
    refine SPO_p rfl (y_fa fld_43_2 rfl) rfl ?_
    refine SPO_h rfl (y_load Tryz.isAgg32 rfl (by repeat (first | exact Cell.head rfl | apply Cell.tail))) rfl ?_
    refine SPO_h rfl (y_load Tryz.isAgg3 rfl (by repeat (first | exact Cell.head rfl | apply Cell.tail))) rfl ?_
    refine SPO_h rfl (y_load Tryz.isAgg3 rfl (by repeat (first | exact Cell.head rfl | apply Cell.tail))) rfl ?_
    refine SPO_z (k := 0) rfl rfl (SP1_call (modm_SetMem mb g.m sm oa ob hm1) Tryz.call36 rfl rfl (by repeat (first | exact Part.nil _ | (apply Part.cons; (first | exact P0 | exact P1 | exact P2 | exact P3 | exact P4 | exact P5 | exact P6 | exact P7 | exact P8 | exact P9 | exact P10 | exact P11 | exact P12 | exact P13 | exact P14 | exact P15 | exact P16 | exact P17 | exact P18 | exact P19 | exact P20 | exact P21 | exact P22 | exact P23)) | (apply Part.flat; simp only [List.cons_append, List.nil_append]) | (apply Part.nilc))) ?_)
    rintro v post H' ⟨sm', rfl, rfl, hm1'⟩ hH
    try simp only [List.cons_append, List.nil_append] at hH
    subst hH
    refine SPO_nil ?_
    refine thenP_n ?_
    refine SP_draw 8 [(0, 0), (1, 0), (2, 0), (4, 0), (6, 0), (3, 1), (5, 1), (7, 1), (8, 3)] mixed (by kernel_rfl) (fun _ _ _ _ _ h => h) (Part.refl _) ?_
    refine SPO_p rfl (y_move rfl) rfl ?_
    refine SPO_p rfl (y_nil rfl) rfl ?_
    refine SPO_p rfl (y_fa fld_37_1 rfl) rfl ?_
    refine SPO_p rfl (y_fa fld_43_1 rfl) rfl ?_
    refine SPO_p rfl (y_fa fld_43_2 rfl) rfl ?_
    refine SPO_h rfl (y_load Tryz.isAgg32 rfl (by repeat (first | exact Cell.head rfl | apply Cell.tail))) rfl ?_
    refine SPO_h rfl (y_load Tryz.isAgg3 rfl (by repeat (first | exact Cell.head rfl | apply Cell.tail))) rfl ?_
    refine SPO_h rfl (y_load Tryz.isAgg3 rfl (by repeat (first | exact Cell.head rfl | apply Cell.tail))) rfl ?_
    refine SPO_z (k := 0) rfl rfl (SP1_call (modm_SetMem mb2 g.m s2 oa ob hm2) Tryz.call36 rfl rfl (by repeat (first | exact Part.nil _ | (apply Part.cons; (first | exact P0 | exact P1 | exact P2 | exact P3 | exact P4 | exact P5 | exact P6 | exact P7 | exact P8 | exact P9 | exact P10 | exact P11 | exact P12 | exact P13 | exact P14 | exact P15 | exact P16 | exact P17 | exact P18 | exact P19 | exact P20 | exact P21 | exact P22 | exact P23)) | (apply Part.flat; simp only [List.cons_append, List.nil_append]) | (apply Part.nilc))) ?_)
    rintro v post H' ⟨s2', rfl, rfl, hm2'⟩ hH
    try simp only [List.cons_append, List.nil_append] at hH
    subst hH
    refine SPO_nil ?_
    refine inBlockP_n ?_
    refine thenP_n ?_
    refine SP_draw 6 [(0, 0), (1, 0), (2, 0), (3, 0), (4, 1), (5, 1), (6, 3), (7, 0), (8, 0), (9, 3)] mixed (by kernel_rfl) (fun _ _ _ _ _ h => h) (Part.refl _) ?_
    refine SPO_p rfl (y_move rfl) rfl ?_
    refine SPO_p rfl (y_move rfl) rfl ?_
    refine SPO_p rfl (y_nil rfl) rfl ?_
    refine SPO_p rfl (y_fa fld_37_3 rfl) rfl ?_
    refine SPO_h rfl (y_load Tryz.isAgg35 rfl (by repeat (first | exact Cell.head rfl | apply Cell.tail))) rfl ?_
    refine SPO_h rfl (y_loads Tryz.isAgg43 Tryz.sizeOf43 rfl rfl (by repeat (first | exact Cells.all _ | exact Cells.head rfl | apply Cells.tail))) rfl ?_
    refine SPO_z (k := 0) rfl rfl (SP1_call (law_Args aa ac g.args sv hav ⟨ok, oa, ob, oc, os, ot⟩) Tryz.call38 rfl rfl (by repeat (first | exact Part.nil _ | (apply Part.cons; (first | exact P0 | exact P1 | exact P2 | exact P3 | exact P4 | exact P5 | exact P6 | exact P7 | exact P8 | exact P9 | exact P10 | exact P11 | exact P12 | exact P13 | exact P14 | exact P15 | exact P16 | exact P17 | exact P18 | exact P19 | exact P20 | exact P21 | exact P22 | exact P23)) | (apply Part.flat; simp only [List.cons_append, List.nil_append]) | (apply Part.nilc))) ?_)
    rintro v post H' ⟨va2, vc2, sv2, rfl, rfl, hva⟩ hH
    try simp only [List.cons_append, List.nil_append] at hH
    subst hH
    refine SPO_p rfl (y_nil rfl) rfl ?_
    refine SPO_p rfl (y_fa fld_37_3 rfl) rfl ?_
    refine SPO_z (k := 0) rfl rfl (SP1_store Tryz.sizeOf35 rfl rfl rfl (by first | exact U0 | exact U1 | exact U2 | exact U3 | exact U4 | exact U5 | exact U6 | exact U7 | exact U8 | exact U9 | exact U10 | exact U11 | exact U12 | exact U13 | exact U14 | exact U15 | exact U16 | exact U17 | exact U18 | exact U19 | exact U20 | exact U21 | exact U22 | exact U23) (by rfl) ?_)
    refine SPO_nil ?_
    refine bodyP_end (H' := [List.flatten [blk gb 37 [.pointer (some ⟨mb, 0, none⟩), .pointer (some ⟨mb2, 0, none⟩), .slice ca g.code.length cc, .slice va2 (argsStep g.args ⟨ok, oa, ob, oc, os, ot⟩).length vc2], s2', sc, sv2], sm']) (Res0 rfl) (by repeat (first | exact Part.nil _ | (apply Part.cons; (first | exact P0 | exact P1 | exact P2 | exact P3 | exact P4 | exact P5 | exact P6 | exact P7 | exact P8 | exact P9 | exact P10 | exact P11 | exact P12 | exact P13 | exact P14 | exact P15 | exact P16 | exact P17 | exact P18 | exact P19 | exact P20 | exact P21 | exact P22 | exact P23)) | (apply Part.flat; simp only [List.cons_append, List.nil_append]) | (apply Part.nilc))) ?_
    unfold regStep
    dsimp only
    rw [if_neg h2_0, if_neg h5_0, if_pos h8_0]
    exact ⟨_, _, _, rfl, rfl, _, _, _, _, _, _, _, _, rfl, hm1', hm2', hcd, hva⟩
  intro h8_0
  refine SPL_y (y_assign rfl) rfl ?_
  refine SPL_nil ?_
  refine thenP_n ?_
  refine SP_cond_f rfl ?_
  refine SP_seq ?_
  refine SP_region ?_
  refine SPL_if (y_eql rfl rfl) rfl ?_ ?_
  · intro h11_0
    refine SPL_y (y_assign rfl) rfl ?_
    refine SPL_nil ?_
    refine thenP_n ?_
    refine SP_cond_t rfl ?_
    refine SP_seq ?_
    refine SP_region ?_
    refine SPL_y (y_move rfl) rfl ?_
    refine SPL_y (y_nil rfl) rfl ?_
    refine SPL_y (y_fa fld_37_2 rfl) rfl ?_
    refine SPL_y (y_load Tryz.isAgg34 rfl (by repeat (first | exact Cell.head rfl | apply Cell.tail))) rfl ?_
    refine SPL_y (y_len_l Tryz.underlying34 rfl) rfl ?_
    refine SPL_ifn (y_leq rfl rfl) rfl ?_ ?_
    · intro h12_5
      refine SPL_nil ?_
      refine thenP_n ?_
      refine SP_cond_f rfl ?_
      refine SP_skip ?_
      refine inBlockP_n ?_
      refine thenP_n ?_
      refine SP_draw 6 [(0, 0), (1, 0), (2, 0), (3, 0), (4, 1), (5, 1), (6, 3), (7, 0), (8, 0), (9, 3)] mixed (by kernel_rfl) (fun _ _ _ _ _ h => h) (Part.refl _) ?_
      refine SPO_p rfl (y_move rfl) rfl ?_
      refine SPO_p rfl (y_move rfl) rfl ?_
      refine SPO_p rfl (y_nil rfl) rfl ?_
      refine SPO_p rfl (y_fa fld_37_3 rfl) rfl ?_
      refine SPO_h rfl (y_load Tryz.isAgg35 rfl (by repeat (first | exact Cell.head rfl | apply Cell.tail))) rfl ?_
      refine SPO_h rfl (y_loads Tryz.isAgg43 Tryz.sizeOf43 rfl rfl (by repeat (first | exact Cells.all _ | exact Cells.head rfl | apply Cells.tail))) rfl ?_
      refine SPO_z (k := 0) rfl rfl (SP1_call (law_Args aa ac g.args sv hav ⟨ok, oa, ob, oc, os, ot⟩) Tryz.call38 rfl rfl (by repeat (first | exact Part.nil _ | (apply Part.cons; (first | exact P0 | exact P1 | exact P2 | exact P3 | exact P4 | exact P5 | exact P6 | exact P7 | exact P8 | exact P9 | exact P10 | exact P11 | exact P12 | exact P13 | exact P14 | exact P15 | exact P16 | exact P17 | exact P18 | exact P19 | exact P20 | exact P21 | exact P22 | exact P23)) | (apply Part.flat; simp only [List.cons_append, List.nil_append]) | (apply Part.nilc))) ?_)
      rintro v post H' ⟨va2, vc2, sv2, rfl, rfl, hva⟩ hH
      try simp only [List.cons_append, List.nil_append] at hH
      subst hH
      refine SPO_p rfl (y_nil rfl) rfl ?_
      refine SPO_p rfl (y_fa fld_37_3 rfl) rfl ?_
      refine SPO_z (k := 0) rfl rfl (SP1_store Tryz.sizeOf35 rfl rfl rfl (by first | exact U0 | exact U1 | exact U2 | exact U3 | exact U4 | exact U5 | exact U6 | exact U7 | exact U8 | exact U9 | exact U10 | exact U11 | exact U12 | exact U13 | exact U14 | exact U15 | exact U16 | exact U17 | exact U18 | exact U19 | exact U20 | exact U21 | exact U22 | exact U23) (by rfl) ?_)
      refine SPO_nil ?_
      refine bodyP_end (H' := [List.flatten [blk gb 37 [.pointer (some ⟨mb, 0, none⟩), .pointer (some ⟨mb2, 0, none⟩), .slice ca g.code.length cc, .slice va2 (argsStep g.args ⟨ok, oa, ob, oc, os, ot⟩).length vc2], s2, sc, sv2], sm]) (Res0 rfl) (by repeat (first | exact Part.nil _ | (apply Part.cons; (first | exact P0 | exact P1 | exact P2 | exact P3 | exact P4 | exact P5 | exact P6 | exact P7 | exact P8 | exact P9 | exact P10 | exact P11 | exact P12 | exact P13 | exact P14 | exact P15 | exact P16 | exact P17 | exact P18 | exact P19 | exact P20 | exact P21 | exact P22 | exact P23)) | (apply Part.flat; simp only [List.cons_append, List.nil_append]) | (apply Part.nilc))) ?_
      unfold regStep
      dsimp only
      rw [if_neg h2_0, if_neg h5_0, if_neg h8_0, if_pos h11_0]
      rw [if_neg (by omega)]
      exact ⟨_, _, _, rfl, rfl, _, _, _, _, _, _, _, _, rfl, hm1, hm2, hcd, hva⟩
    intro h12_5
    refine SPL_nil ?_
    refine thenP_n ?_
    refine SP_cond_t rfl ?_
    refine SP_draw 13 [(0, 0), (1, 0), (2, 0), (3, 0), (5, 0), (7, 0), (9, 0), (4, 1), (6, 1), (8, 1), (10, 1), (11, 0), (12, 2), (13, 3), (14, 0), (15, 0), (16, 3)] mixed (by kernel_rfl) (fun _ _ _ _ _ h => h) (Part.refl _) ?_
    refine SPO_p rfl (y_move rfl) rfl ?_
    refine SPO_p rfl (y_move rfl) rfl ?_
    refine SPO_p rfl (y_nil rfl) rfl ?_
    refine SPO_p rfl (y_fa fld_37_2 rfl) rfl ?_
    refine SPO_p rfl (y_fa fld_43_1 rfl) rfl ?_
    refine SPO_p rfl (y_fa fld_43_2 rfl) rfl ?_
    refine SPO_p rfl (y_fa fld_43_4 rfl) rfl ?_
    refine SPO_h rfl (y_load Tryz.isAgg34 rfl (by repeat (first | exact Cell.head rfl | apply Cell.tail))) rfl ?_
    refine SPO_h rfl (y_load Tryz.isAgg3 rfl (by repeat (first | exact Cell.head rfl | apply Cell.tail))) rfl ?_
    refine SPO_h rfl (y_load Tryz.isAgg3 rfl (by repeat (first | exact Cell.head rfl | apply Cell.tail))) rfl ?_
    refine SPO_h rfl (y_load Tryz.isAgg9 rfl (by repeat (first | exact Cell.head rfl | apply Cell.tail))) rfl ?_
    refine SPO_p rfl (y_build B87 rfl rfl (by simp only [fillL, List.foldl_cons, List.foldl_nil, List.set_cons_zero, List.set_cons_succ]; exact rfl)) rfl ?_
    refine SPO_a rfl rfl (SP1_slice1 el_34 rfl rfl rfl rfl rfl ?_)
    intro b82
    refine ⟨⟨_, (by repeat (first | exact Part.nil _ | (apply Part.cons; (first | exact P0 | exact P1 | exact P2 | exact P3 | exact P4 | exact P5 | exact P6 | exact P7 | exact P8 | exact P9 | exact P10 | exact P11 | exact P12 | exact P13 | exact P14 | exact P15 | exact P16 | exact P17 | exact P18 | exact P19 | exact P20 | exact P21 | exact P22 | exact P23)) | (apply Part.flat; simp only [List.cons_append, List.nil_append]) | (apply Part.nilc)))⟩, ?_⟩
    refine SPO_z (k := 0) rfl rfl (SP1_append el_34 (.inl Tryz.underlying34) rfl rfl hcd (by first | exact P0 | exact P1 | exact P2 | exact P3 | exact P4 | exact P5 | exact P6 | exact P7 | exact P8 | exact P9 | exact P10 | exact P11 | exact P12 | exact P13 | exact P14 | exact P15 | exact P16 | exact P17 | exact P18 | exact P19 | exact P20 | exact P21 | exact P22 | exact P23) (Src.of (by repeat (first | exact Cells.all _ | exact Cells.head rfl | apply Cells.tail)) (by rfl)) (by rfl) (by omega) rfl ?_)
    intro ca2 cc2 sc2 hcd2
    refine SPO_p rfl (y_nil rfl) rfl ?_
    refine SPO_p rfl (y_fa fld_37_2 rfl) rfl ?_
    refine SPO_z (k := 0) rfl rfl (SP1_store Tryz.sizeOf34 rfl rfl rfl (by first | exact U0 | exact U1 | exact U2 | exact U3 | exact U4 | exact U5 | exact U6 | exact U7 | exact U8 | exact U9 | exact U10 | exact U11 | exact U12 | exact U13 | exact U14 | exact U15 | exact U16 | exact U17 | exact U18 | exact U19 | exact U20 | exact U21 | exact U22 | exact U23) (by rfl) ?_)
    refine SPO_nil ?_
    refine inBlockP_n ?_
    refine thenP_n ?_
    refine SP_draw 6 [(0, 0), (1, 0), (2, 0), (3, 0), (4, 1), (5, 1), (6, 3), (7, 0), (8, 0), (9, 3)] mixed (by kernel_rfl) (fun _ _ _ _ _ h => h) (Part.refl _) ?_
    refine SPO_p rfl (y_move rfl) rfl ?_
    refine SPO_p rfl (y_move rfl) rfl ?_
    refine SPO_p rfl (y_nil rfl) rfl ?_
    refine SPO_p rfl (y_fa fld_37_3 rfl) rfl ?_
    refine SPO_h rfl (y_load Tryz.isAgg35 rfl (by repeat (first | exact Cell.head rfl | apply Cell.tail))) rfl ?_
    refine SPO_h rfl (y_loads Tryz.isAgg43 Tryz.sizeOf43 rfl rfl (by repeat (first | exact Cells.all _ | exact Cells.head rfl | apply Cells.tail))) rfl ?_
    refine SPO_z (k := 0) rfl rfl (SP1_call (law_Args aa ac g.args sv hav ⟨ok, oa, ob, oc, os, ot⟩) Tryz.call38 rfl rfl (by repeat (first | exact Part.nil _ | (apply Part.cons; (first | exact P0 | exact P1 | exact P2 | exact P3 | exact P4 | exact P5 | exact P6 | exact P7 | exact P8 | exact P9 | exact P10 | exact P11 | exact P12 | exact P13 | exact P14 | exact P15 | exact P16 | exact P17 | exact P18 | exact P19 | exact P20 | exact P21 | exact P22 | exact P23)) | (apply Part.flat; simp only [List.cons_append, List.nil_append]) | (apply Part.nilc))) ?_)
    rintro v post H' ⟨va2, vc2, sv2, rfl, rfl, hva⟩ hH
    try simp only [List.cons_append, List.nil_append] at hH
    subst hH
    refine SPO_p rfl (y_nil rfl) rfl ?_
    refine SPO_p rfl (y_fa fld_37_3 rfl) rfl ?_
    refine SPO_z (k := 0) rfl rfl (SP1_store Tryz.sizeOf35 rfl rfl rfl (by first | exact U0 | exact U1 | exact U2 | exact U3 | exact U4 | exact U5 | exact U6 | exact U7 | exact U8 | exact U9 | exact U10 | exact U11 | exact U12 | exact U13 | exact U14 | exact U15 | exact U16 | exact U17 | exact U18 | exact U19 | exact U20 | exact U21 | exact U22 | exact U23) (by rfl) ?_)
    refine SPO_nil ?_
    refine bodyP_end (H' := [List.flatten [blk gb 37 [.pointer (some ⟨mb, 0, none⟩), .pointer (some ⟨mb2, 0, none⟩), .slice ca2 (g.code.length + 1) cc2, .slice va2 (argsStep g.args ⟨ok, oa, ob, oc, os, ot⟩).length vc2], s2, sc2, sv2], sm]) (Res0 rfl) (by repeat (first | exact Part.nil _ | (apply Part.cons; (first | exact P0 | exact P1 | exact P2 | exact P3 | exact P4 | exact P5 | exact P6 | exact P7 | exact P8 | exact P9 | exact P10 | exact P11 | exact P12 | exact P13 | exact P14 | exact P15 | exact P16 | exact P17 | exact P18 | exact P19 | exact P20 | exact P21 | exact P22 | exact P23)) | (apply Part.flat; simp only [List.cons_append, List.nil_append]) | (apply Part.nilc))) ?_
    unfold regStep
    dsimp only
    rw [if_neg h2_0, if_neg h5_0, if_neg h8_0, if_pos h11_0]
    rw [if_pos (by omega)]
    have e3 : (g.code ++ [(⟨oa, ob, os⟩ : Ins)]).length = g.code.length + 1 := by simp
    have e4 : codeV (g.code ++ [(⟨oa, ob, os⟩ : Ins)]) = codeV g.code ++ [I oa, I ob, S os] := by simp [codeV, insV]
    refine ⟨_, _, _, rfl, rfl, mb2, ca2, cc2, _, _, _, _, _, by rw [e3], hm1, hm2, ?_, hva⟩
    dsimp only
    rw [e3, e4]
    exact hcd2
  intro h11_0
  refine SPL_y (y_assign rfl) rfl ?_
  refine SPL_nil ?_
  refine thenP_n ?_
  refine SP_cond_f rfl ?_
  refine SP_seq ?_
  refine SP_region ?_
  refine SPL_if (y_eql rfl rfl) rfl ?_ ?_
  · intro h14_0
    refine SPL_y (y_assign rfl) rfl ?_
    refine SPL_nil ?_
    refine thenP_n ?_
    refine SP_cond_t rfl ?_
    refine SP_seq ?_
    refine SP_draw 12 [(0, 0), (1, 0), (2, 0), (4, 0), (6, 0), (8, 0), (9, 0), (10, 0), (3, 1), (5, 1), (7, 1), (11, 1), (12, 3)] mixed (by kernel_rfl) (fun _ _ _ _ _ h => h) (Part.refl _) ?_
    refine SPO_p rfl (y_move rfl) rfl ?_
    refine SPO_p rfl (y_nil rfl) rfl ?_
    refine SPO_p rfl (y_fa fld_37_0 rfl) rfl ?_
    refine SPO_p rfl (y_fa fld_43_1 rfl) rfl ?_
    refine SPO_p rfl (y_fa fld_43_4 rfl) rfl ?_
    refine SPO_p rfl (y_move rfl) rfl ?_
    refine SPO_p rfl (y_nil rfl) rfl ?_
    refine SPO_p rfl (y_fa fld_37_2 rfl) rfl ?_
    refine SPO_h rfl (y_load Tryz.isAgg32 rfl (by repeat (first | exact Cell.head rfl | apply Cell.tail))) rfl ?_
    refine SPO_h rfl (y_load Tryz.isAgg3 rfl (by repeat (first | exact Cell.head rfl | apply Cell.tail))) rfl ?_
    refine SPO_h rfl (y_load Tryz.isAgg9 rfl (by repeat (first | exact Cell.head rfl | apply Cell.tail))) rfl ?_
    refine SPO_h rfl (y_load Tryz.isAgg34 rfl (by repeat (first | exact Cell.head rfl | apply Cell.tail))) rfl ?_
    refine SPO_z (k := 0) rfl rfl (SP1_call (modm_AddFunc mb g.m sm oa os ca cc g.code sc hm1 hcd hcl) Tryz.call37 rfl rfl (by repeat (first | exact Part.nil _ | (apply Part.cons; (first | exact P0 | exact P1 | exact P2 | exact P3 | exact P4 | exact P5 | exact P6 | exact P7 | exact P8 | exact P9 | exact P10 | exact P11 | exact P12 | exact P13 | exact P14 | exact P15 | exact P16 | exact P17 | exact P18 | exact P19 | exact P20 | exact P21 | exact P22 | exact P23)) | (apply Part.flat; simp only [List.cons_append, List.nil_append]) | (apply Part.nilc))) ?_)
    rintro v post H' ⟨sm', rfl, rfl, hm1'⟩ hH
    try simp only [List.cons_append, List.nil_append] at hH
    subst hH
    refine SPO_nil ?_
    refine thenP_n ?_
    refine SP_seq ?_
    refine SP_draw 12 [(0, 0), (1, 0), (2, 0), (4, 0), (6, 0), (8, 0), (9, 0), (10, 0), (3, 1), (5, 1), (7, 1), (11, 1), (12, 3)] mixed (by kernel_rfl) (fun _ _ _ _ _ h => h) (Part.refl _) ?_
    refine SPO_p rfl (y_move rfl) rfl ?_
    refine SPO_p rfl (y_nil rfl) rfl ?_
    refine SPO_p rfl (y_fa fld_37_1 rfl) rfl ?_
    refine SPO_p rfl (y_fa fld_43_1 rfl) rfl ?_
    refine SPO_p rfl (y_fa fld_43_4 rfl) rfl ?_
    refine SPO_p rfl (y_move rfl) rfl ?_
    refine SPO_p rfl (y_nil rfl) rfl ?_
    refine SPO_p rfl (y_fa fld_37_2 rfl) rfl ?_
    refine SPO_h rfl (y_load Tryz.isAgg32 rfl (by repeat (first | exact Cell.head rfl | apply Cell.tail))) rfl ?_
    refine SPO_h rfl (y_load Tryz.isAgg3 rfl (by repeat (first | exact Cell.head rfl | apply Cell.tail))) rfl ?_
    refine SPO_h rfl (y_load Tryz.isAgg9 rfl (by repeat (first | exact Cell.head rfl | apply Cell.tail))) rfl ?_
    refine SPO_h rfl (y_load Tryz.isAgg34 rfl (by repeat (first | exact Cell.head rfl | apply Cell.tail))) rfl ?_
    refine SPO_z (k := 0) rfl rfl (SP1_call (modm_AddFunc mb2 g.m s2 oa os ca cc g.code sc hm2 hcd hcl) Tryz.call37 rfl rfl (by repeat (first | exact Part.nil _ | (apply Part.cons; (first | exact P0 | exact P1 | exact P2 | exact P3 | exact P4 | exact P5 | exact P6 | exact P7 | exact P8 | exact P9 | exact P10 | exact P11 | exact P12 | exact P13 | exact P14 | exact P15 | exact P16 | exact P17 | exact P18 | exact P19 | exact P20 | exact P21 | exact P22 | exact P23)) | (apply Part.flat; simp only [List.cons_append, List.nil_append]) | (apply Part.nilc))) ?_)
    rintro v post H' ⟨s2', rfl, rfl, hm2'⟩ hH
    try simp only [List.cons_append, List.nil_append] at hH
    subst hH
    refine SPO_nil ?_
    refine thenP_n ?_
    refine SP_region ?_
    refine SPL_y (y_move rfl) rfl ?_
    refine SPL_y (y_nil rfl) rfl ?_
    refine SPL_y (y_fa fld_37_2 rfl) rfl ?_
    refine SPL_one rfl (SP1_store Tryz.sizeOf34 rfl rfl rfl (by first | exact U0 | exact U1 | exact U2 | exact U3 | exact U4 | exact U5 | exact U6 | exact U7 | exact U8 | exact U9 | exact U10 | exact U11 | exact U12 | exact U13 | exact U14 | exact U15 | exact U16 | exact U17 | exact U18 | exact U19 | exact U20 | exact U21 | exact U22 | exact U23) (by rfl) ?_)
    refine SPL_nil ?_
    refine inBlockP_n ?_
    refine thenP_n ?_
    refine SP_draw 6 [(0, 0), (1, 0), (2, 0), (3, 0), (4, 1), (5, 1), (6, 3), (7, 0), (8, 0), (9, 3)] mixed (by kernel_rfl) (fun _ _ _ _ _ h => h) (Part.refl _) ?_
    refine SPO_p rfl (y_move rfl) rfl ?_
    refine SPO_p rfl (y_move rfl) rfl ?_
    refine SPO_p rfl (y_nil rfl) rfl ?_
    refine SPO_p rfl (y_fa fld_37_3 rfl) rfl ?_
    refine SPO_h rfl (y_load Tryz.isAgg35 rfl (by repeat (first | exact Cell.head rfl | apply Cell.tail))) rfl ?_
    refine SPO_h rfl (y_loads Tryz.isAgg43 Tryz.sizeOf43 rfl rfl (by repeat (first | exact Cells.all _ | exact Cells.head rfl | apply Cells.tail))) rfl ?_
    refine SPO_z (k := 0) rfl rfl (SP1_call (law_Args aa ac g.args sv hav ⟨ok, oa, ob, oc, os, ot⟩) Tryz.call38 rfl rfl (by repeat (first | exact Part.nil _ | (apply Part.cons; (first | exact P0 | exact P1 | exact P2 | exact P3 | exact P4 | exact P5 | exact P6 | exact P7 | exact P8 | exact P9 | exact P10 | exact P11 | exact P12 | exact P13 | exact P14 | exact P15 | exact P16 | exact P17 | exact P18 | exact P19 | exact P20 | exact P21 | exact P22 | exact P23)) | (apply Part.flat; simp only [List.cons_append, List.nil_append]) | (apply Part.nilc))) ?_)
    rintro v post H' ⟨va2, vc2, sv2, rfl, rfl, hva⟩ hH
    try simp only [List.cons_append, List.nil_append] at hH
    subst hH
    refine SPO_p rfl (y_nil rfl) rfl ?_
    refine SPO_p rfl (y_fa fld_37_3 rfl) rfl ?_
    refine SPO_z (k := 0) rfl rfl (SP1_store Tryz.sizeOf35 rfl rfl rfl (by first | exact U0 | exact U1 | exact U2 | exact U3 | exact U4 | exact U5 | exact U6 | exact U7 | exact U8 | exact U9 | exact U10 | exact U11 | exact U12 | exact U13 | exact U14 | exact U15 | exact U16 | exact U17 | exact U18 | exact U19 | exact U20 | exact U21 | exact U22 | exact U23) (by rfl) ?_)
    refine SPO_nil ?_
    refine bodyP_end (H' := [List.flatten [blk gb 37 [.pointer (some ⟨mb, 0, none⟩), .pointer (some ⟨mb2, 0, none⟩), .slice none 0 0, .slice va2 (argsStep g.args ⟨ok, oa, ob, oc, os, ot⟩).length vc2], s2', [], sv2], sm']) (Res0 rfl) (by repeat (first | exact Part.nil _ | (apply Part.cons; (first | exact P0 | exact P1 | exact P2 | exact P3 | exact P4 | exact P5 | exact P6 | exact P7 | exact P8 | exact P9 | exact P10 | exact P11 | exact P12 | exact P13 | exact P14 | exact P15 | exact P16 | exact P17 | exact P18 | exact P19 | exact P20 | exact P21 | exact P22 | exact P23)) | (apply Part.flat; simp only [List.cons_append, List.nil_append]) | (apply Part.nilc))) ?_
    unfold regStep
    dsimp only
    rw [if_neg h2_0, if_neg h5_0, if_neg h8_0, if_neg h11_0, if_pos h14_0]
    exact ⟨_, _, _, rfl, rfl, _, _, _, _, _, _, _, _, rfl, hm1', hm2', ⟨rfl, .inl ⟨rfl, rfl, rfl, rfl⟩⟩, hva⟩
  intro h14_0
  refine SPL_y (y_assign rfl) rfl ?_
  refine SPL_nil ?_
  refine thenP_n ?_
  refine SP_cond_f rfl ?_
  refine SP_seq ?_
  refine SP_region ?_
  refine SPL_ifn (y_eql rfl rfl) rfl ?_ ?_
  · intro h18_0
    refine SPL_y (y_assign rfl) rfl ?_
    refine SPL_nil ?_
    refine thenP_n ?_
    refine SP_cond_f rfl ?_
    refine SP_skip ?_
    refine inBlockP_n ?_
    refine thenP_n ?_
    refine SP_draw 6 [(0, 0), (1, 0), (2, 0), (3, 0), (4, 1), (5, 1), (6, 3), (7, 0), (8, 0), (9, 3)] mixed (by kernel_rfl) (fun _ _ _ _ _ h => h) (Part.refl _) ?_
    refine SPO_p rfl (y_move rfl) rfl ?_
    refine SPO_p rfl (y_move rfl) rfl ?_
    refine SPO_p rfl (y_nil rfl) rfl ?_
    refine SPO_p rfl (y_fa fld_37_3 rfl) rfl ?_
    refine SPO_h rfl (y_load Tryz.isAgg35 rfl (by repeat (first | exact Cell.head rfl | apply Cell.tail))) rfl ?_
    refine SPO_h rfl (y_loads Tryz.isAgg43 Tryz.sizeOf43 rfl rfl (by repeat (first | exact Cells.all _ | exact Cells.head rfl | apply Cells.tail))) rfl ?_
    refine SPO_z (k := 0) rfl rfl (SP1_call (law_Args aa ac g.args sv hav ⟨ok, oa, ob, oc, os, ot⟩) Tryz.call38 rfl rfl (by repeat (first | exact Part.nil _ | (apply Part.cons; (first | exact P0 | exact P1 | exact P2 | exact P3 | exact P4 | exact P5 | exact P6 | exact P7 | exact P8 | exact P9 | exact P10 | exact P11 | exact P12 | exact P13 | exact P14 | exact P15 | exact P16 | exact P17 | exact P18 | exact P19 | exact P20 | exact P21 | exact P22 | exact P23)) | (apply Part.flat; simp only [List.cons_append, List.nil_append]) | (apply Part.nilc))) ?_)
    rintro v post H' ⟨va2, vc2, sv2, rfl, rfl, hva⟩ hH
    try simp only [List.cons_append, List.nil_append] at hH
    subst hH
    refine SPO_p rfl (y_nil rfl) rfl ?_
    refine SPO_p rfl (y_fa fld_37_3 rfl) rfl ?_
    refine SPO_z (k := 0) rfl rfl (SP1_store Tryz.sizeOf35 rfl rfl rfl (by first | exact U0 | exact U1 | exact U2 | exact U3 | exact U4 | exact U5 | exact U6 | exact U7 | exact U8 | exact U9 | exact U10 | exact U11 | exact U12 | exact U13 | exact U14 | exact U15 | exact U16 | exact U17 | exact U18 | exact U19 | exact U20 | exact U21 | exact U22 | exact U23) (by rfl) ?_)
    refine SPO_nil ?_
    refine bodyP_end (H' := [List.flatten [blk gb 37 [.pointer (some ⟨mb, 0, none⟩), .pointer (some ⟨mb2, 0, none⟩), .slice ca g.code.length cc, .slice va2 (argsStep g.args ⟨ok, oa, ob, oc, os, ot⟩).length vc2], s2, sc, sv2], sm]) (Res0 rfl) (by repeat (first | exact Part.nil _ | (apply Part.cons; (first | exact P0 | exact P1 | exact P2 | exact P3 | exact P4 | exact P5 | exact P6 | exact P7 | exact P8 | exact P9 | exact P10 | exact P11 | exact P12 | exact P13 | exact P14 | exact P15 | exact P16 | exact P17 | exact P18 | exact P19 | exact P20 | exact P21 | exact P22 | exact P23)) | (apply Part.flat; simp only [List.cons_append, List.nil_append]) | (apply Part.nilc))) ?_
    unfold regStep
    dsimp only
    rw [if_neg h2_0, if_neg h5_0, if_neg h8_0, if_neg h11_0, if_neg h14_0, if_neg h18_0]
    exact ⟨_, _, _, rfl, rfl, _, _, _, _, _, _, _, _, rfl, hm1, hm2, hcd, hva⟩
  intro h18_0
  refine SPL_y (y_assign rfl) rfl ?_
  refine SPL_nil ?_
  refine thenP_n ?_
  refine SP_cond_t rfl ?_
  refine SP_seq ?_
  refine SP_region ?_
  refine SPL_y (y_move rfl) rfl ?_
  refine SPL_one rfl (SP1_call (modm_New) Tryz.call10 rfl rfl (by repeat (first | exact Part.nil _ | (apply Part.cons; (first | exact P0 | exact P1 | exact P2 | exact P3 | exact P4 | exact P5 | exact P6 | exact P7 | exact P8 | exact P9 | exact P10 | exact P11 | exact P12 | exact P13 | exact P14 | exact P15 | exact P16 | exact P17 | exact P18 | exact P19 | exact P20 | exact P21 | exact P22 | exact P23)) | (apply Part.flat; simp only [List.cons_append, List.nil_append]) | (apply Part.nilc))) ?_)
  rintro v post H' ⟨mbn, smn, rfl, rfl, hm1'⟩ hH
  try simp only [List.cons_append, List.nil_append] at hH
  subst hH
  refine SPL_y (y_nil rfl) rfl ?_
  refine SPL_y (y_fa fld_37_0 rfl) rfl ?_
  refine SPL_one rfl (SP1_store Tryz.sizeOf32 rfl rfl rfl (by first | exact U0 | exact U1 | exact U2 | exact U3 | exact U4 | exact U5 | exact U6 | exact U7 | exact U8 | exact U9 | exact U10 | exact U11 | exact U12 | exact U13 | exact U14 | exact U15 | exact U16 | exact U17 | exact U18 | exact U19 | exact U20 | exact U21 | exact U22 | exact U23) (by rfl) ?_)
  refine SPL_nil ?_
  refine thenP_n ?_
  refine SP_region ?_
  refine SPL_y (y_move rfl) rfl ?_
  refine SPL_one rfl (SP1_call (modm_New) Tryz.call10 rfl rfl (by repeat (first | exact Part.nil _ | (apply Part.cons; (first | exact P0 | exact P1 | exact P2 | exact P3 | exact P4 | exact P5 | exact P6 | exact P7 | exact P8 | exact P9 | exact P10 | exact P11 | exact P12 | exact P13 | exact P14 | exact P15 | exact P16 | exact P17 | exact P18 | exact P19 | exact P20 | exact P21 | exact P22 | exact P23)) | (apply Part.flat; simp only [List.cons_append, List.nil_append]) | (apply Part.nilc))) ?_)
  rintro v post H' ⟨mbn2, smn2, rfl, rfl, hm2'⟩ hH
  try simp only [List.cons_append, List.nil_append] at hH
  subst hH
  refine SPL_y (y_nil rfl) rfl ?_
  refine SPL_y (y_fa fld_37_1 rfl) rfl ?_
  refine SPL_one rfl (SP1_store Tryz.sizeOf32 rfl rfl rfl (by first | exact U0 | exact U1 | exact U2 | exact U3 | exact U4 | exact U5 | exact U6 | exact U7 | exact U8 | exact U9 | exact U10 | exact U11 | exact U12 | exact U13 | exact U14 | exact U15 | exact U16 | exact U17 | exact U18 | exact U19 | exact U20 | exact U21 | exact U22 | exact U23) (by rfl) ?_)
  refine SPL_nil ?_
  refine inBlockP_n ?_
  refine thenP_n ?_
  refine SP_draw 6 [(0, 0), (1, 0), (2, 0), (3, 0), (4, 1), (5, 1), (6, 3), (7, 0), (8, 0), (9, 3)] mixed (by kernel_rfl) (fun _ _ _ _ _ h => h) (Part.refl _) ?_
  refine SPO_p rfl (y_move rfl) rfl ?_
  refine SPO_p rfl (y_move rfl) rfl ?_
  refine SPO_p rfl (y_nil rfl) rfl ?_
  refine SPO_p rfl (y_fa fld_37_3 rfl) rfl ?_
  refine SPO_h rfl (y_load Tryz.isAgg35 rfl (by repeat (first | exact Cell.head rfl | apply Cell.tail))) rfl ?_
  refine SPO_h rfl (y_loads Tryz.isAgg43 Tryz.sizeOf43 rfl rfl (by repeat (first | exact Cells.all _ | exact Cells.head rfl | apply Cells.tail))) rfl ?_
  refine SPO_z (k := 0) rfl rfl (SP1_call (law_Args aa ac g.args sv hav ⟨ok, oa, ob, oc, os, ot⟩) Tryz.call38 rfl rfl (by repeat (first | exact Part.nil _ | (apply Part.cons; (first | exact P0 | exact P1 | exact P2 | exact P3 | exact P4 | exact P5 | exact P6 | exact P7 | exact P8 | exact P9 | exact P10 | exact P11 | exact P12 | exact P13 | exact P14 | exact P15 | exact P16 | exact P17 | exact P18 | exact P19 | exact P20 | exact P21 | exact P22 | exact P23)) | (apply Part.flat; simp only [List.cons_append, List.nil_append]) | (apply Part.nilc))) ?_)
  rintro v post H' ⟨va2, vc2, sv2, rfl, rfl, hva⟩ hH
  try simp only [List.cons_append, List.nil_append] at hH
  subst hH
  refine SPO_p rfl (y_nil rfl) rfl ?_
  refine SPO_p rfl (y_fa fld_37_3 rfl) rfl ?_
  refine SPO_z (k := 0) rfl rfl (SP1_store Tryz.sizeOf35 rfl rfl rfl (by first | exact U0 | exact U1 | exact U2 | exact U3 | exact U4 | exact U5 | exact U6 | exact U7 | exact U8 | exact U9 | exact U10 | exact U11 | exact U12 | exact U13 | exact U14 | exact U15 | exact U16 | exact U17 | exact U18 | exact U19 | exact U20 | exact U21 | exact U22 | exact U23) (by rfl) ?_)
  refine SPO_nil ?_
  refine bodyP_end (H' := [List.flatten [blk gb 37 [.pointer (some ⟨mbn, 0, none⟩), .pointer (some ⟨mbn2, 0, none⟩), .slice ca g.code.length cc, .slice va2 (argsStep g.args ⟨ok, oa, ob, oc, os, ot⟩).length vc2], smn2, sc, sv2], smn]) (Res0 rfl) (by repeat (first | exact Part.nil _ | (apply Part.cons; (first | exact P0 | exact P1 | exact P2 | exact P3 | exact P4 | exact P5 | exact P6 | exact P7 | exact P8 | exact P9 | exact P10 | exact P11 | exact P12 | exact P13 | exact P14 | exact P15 | exact P16 | exact P17 | exact P18 | exact P19 | exact P20 | exact P21 | exact P22 | exact P23)) | (apply Part.flat; simp only [List.cons_append, List.nil_append]) | (apply Part.nilc))) ?_
  unfold regStep
  dsimp only
  rw [if_neg h2_0, if_neg h5_0, if_neg h8_0, if_neg h11_0, if_neg h14_0, if_pos h18_0]
  exact ⟨_, _, _, rfl, rfl, _, _, _, _, _, _, _, _, rfl, hm1', hm2', hcd, hva⟩

end Go.Sl
