/- Walks: package runm, New and Show (made by program out of short notes) -/
import Derived.Test.Qxb6500572aGreatDoorWRmK
namespace Go.Sl
open Go Go.Wl Go.Proofs
set_option maxRecDepth 100000
set_option linter.unusedVariables false
set_option linter.unusedSimpArgs false
theorem func0 {m : Mod} {f : Nat} {fn : Wl.Fn} (h : m.funcs[f]? = some fn) : m.func f = (fn.typ, fn.locals, (fn.code.length : Int)) := by
  have hl := (List.getElem?_eq_some_iff.1 h).1
  unfold Mod.func; rw [if_neg (by omega), Int.toNat_natCast, h]
theorem at0 {m : Mod} {f i : Nat} {fn : Wl.Fn} (h : m.funcs[f]? = some fn) (hi : i < fn.code.length) : m.at f i = fn.code[i] := by
  unfold Mod.at
  rw [if_pos (by omega), Int.toNat_natCast, h]
  dsimp only
  rw [if_pos (by omega), Int.toNat_natCast, List.getElem?_eq_getElem hi]

theorem rm_New (b : Nat) (m : Mod) (sm : Seg) (hm : isMod b m sm) (hnf : m.funcs.length ≤ 100) (hcl : ∀ fn, fn ∈ m.funcs → fn.code.length ≤ 100) (pb kb : Nat) (E : RE) (hE : E.fuel = 0 ∧ E.host = false ∧ E.tape = []) (R : RS) (hR : R.used = 0 ∧ R.n = 0 ∧ R.asked = 0 ∧ R.trace = [] ∧ R.st = []) : Spec Tryz.prog 46 [.pointer (some ⟨b, 0, none⟩), pvp pb, pvp kb] [sm] (Ret fun v H => ∃ x rv s sx, v = pvp x ∧ H = [s, sx, sm] ∧ isR x (pvp pb) rv (pvp kb) E R s ∧ isSrc rv (m.funcs.map (·.code)) sx) := by
  obtain ⟨Pz, src0, fu0, ho0, ta0⟩ := E
  obtain ⟨st0, us0, n0, as0, tr0, me0⟩ := R
  dsimp only at hE hR
  obtain ⟨rfl, rfl, rfl⟩ := hE
  obtain ⟨rfl, rfl, rfl, rfl, rfl⟩ := hR
  refine Spec_enter Tryz.func46 rfl Tryz.ntmps46 rfl ?_
  show SP _ _ _ _ _ [(0, _), (1, _), (2, _)] _
  refine SP_seq ?_
  refine SP_region ?_
  refine SPL_y (y_assign rfl) rfl ?_
  refine SPL_nil ?_
  refine thenP_n ?_
  refine SP_seq ?_
  refine SP_region ?_
  refine SPL_y (y_move rfl) rfl ?_
  refine SPL_y (y_move rfl) rfl ?_
  refine SPL_y (y_build B119 rfl rfl (by simp only [fillL, List.foldl_cons, List.foldl_nil, List.set_cons_zero, List.set_cons_succ]; exact rfl)) rfl ?_
  refine SPL_one rfl (SP1_box rfl rfl rfl ?_)
  intro x
  refine SPL_y (y_assign rfl) rfl ?_
  refine SPL_nil ?_
  refine thenP_n ?_
  refine SP_seq ?_
  refine SP_region ?_
  refine SPL_y (y_move rfl) rfl ?_
  refine SPL_one rfl (SP1_call (modm_NFuncs b m sm hm) Tryz.call68 rfl rfl (by repeat (first | exact Part.nil _ | (apply Part.cons; (first | exact P0 | exact P1 | exact P2 | exact P3 | exact P4 | exact P5 | exact P6 | exact P7 | exact P8 | exact P9 | exact P10 | exact P11 | exact P12 | exact P13 | exact P14 | exact P15 | exact P16 | exact P17 | exact P18 | exact P19 | exact P20 | exact P21 | exact P22 | exact P23)) | (apply Part.flat; simp only [List.cons_append, List.nil_append]) | (apply Part.nilc))) ?_)
  rintro v post H' ⟨rfl, rfl⟩ hH
  try simp only [List.cons_append, List.nil_append] at hH
  subst hH
  refine SPL_y (y_assign rfl) rfl ?_
  refine SPL_nil ?_
  refine thenP_n ?_
  refine SP_seq ?_
  refine SP_seq ?_
  refine SP_region ?_
  refine SPL_y (y_assign rfl) rfl ?_
  refine SPL_nil ?_
  refine thenP_n ?_
  refine SP_block ?_
  refine SP_loop (G := Nat × Option Addr × Nat × List Value × Seg × Seg) (fun g => m.funcs.length - g.1) (fun g => [(0, .pointer (some ⟨b, 0, none⟩)), (7, pvp x), (8, I m.funcs.length), (9, I g.1)]) (fun g => [blk x 119 [pvp pb, .slice g.2.1 g.1 g.2.2.1, pvp kb, .slice none 0 0, I 0, I 0, I 0, I 0, .bool false, S [], S []], g.2.2.2.2.1, g.2.2.2.2.2, sm]) (fun g => g.1 ≤ m.funcs.length ∧ Arr 34 1 g.2.1 g.1 g.2.2.1 g.2.2.2.1 g.2.2.2.2.1 ∧ SrcR ((m.funcs.take g.1).map (·.code)) g.2.2.2.1 g.2.2.2.2.2) ((0, none, 0, [], [], [])) (⟨Nat.zero_le _, Arr.nil _ _, rfl, rfl⟩) (by repeat (first | exact Sub.nil _ | refine Sub.cons rfl ?_)) (by repeat (first | exact Part.nil _ | (apply Part.cons; (first | exact P0 | exact P1 | exact P2 | exact P3 | exact P4 | exact P5 | exact P6 | exact P7 | exact P8 | exact P9 | exact P10 | exact P11 | exact P12 | exact P13 | exact P14 | exact P15 | exact P16 | exact P17 | exact P18 | exact P19 | exact P20 | exact P21 | exact P22 | exact P23)) | (apply Part.flat; simp only [List.cons_append, List.nil_append]) | (apply Part.nilc))) ?_
  rintro ⟨f, ra, rc, cs, sr, sx⟩ ⟨hf, har, hsr⟩
  dsimp only at hf har hsr ⊢
  refine SP_seq ?_
  refine SP_seq ?_
  refine SP_region ?_
  refine SPL_y (y_move rfl) rfl ?_
  refine SPL_y (y_move rfl) rfl ?_
  refine SPL_ifn (y_lss rfl rfl) rfl ?_ ?_
  · intro h4_2
    refine SPL_nil ?_
    refine thenP_n ?_
    refine SP_cond_f rfl ?_
    refine SP_exit ?_
    refine thenP_exit ?_
    refine thenP_exit ?_
    refine inBlockP_hit ?_
    refine thenP_n ?_
    refine SP_seq ?_
    refine SP_region ?_
    refine SPL_y (y_move rfl) rfl ?_
    refine SPL_y (y_assign rfl) rfl ?_
    refine SPL_nil ?_
    refine thenP_n ?_
    refine SP_ret ?_
    refine bodyP_ret (H' := [List.flatten [blk x 119 [pvp pb, .slice ra f rc, pvp kb, .slice none 0 0, I 0, I 0, I 0, I 0, .bool false, S [], S []], []], List.flatten [sr, sx], sm]) (Res1 rfl rfl) (by repeat (first | exact Part.nil _ | (apply Part.cons; (first | exact P0 | exact P1 | exact P2 | exact P3 | exact P4 | exact P5 | exact P6 | exact P7 | exact P8 | exact P9 | exact P10 | exact P11 | exact P12 | exact P13 | exact P14 | exact P15 | exact P16 | exact P17 | exact P18 | exact P19 | exact P20 | exact P21 | exact P22 | exact P23)) | (apply Part.flat; simp only [List.cons_append, List.nil_append]) | (apply Part.nilc))) ?_
    obtain rfl : f = m.funcs.length := by omega
    rw [List.take_of_length_le (Nat.le_refl _)] at hsr
    exact ⟨x, _, _, _, rfl, rfl, ⟨none, 0, [], rfl, Arr.nil _ _⟩, ra, rc, cs, sr, sx, by rw [List.length_map], rfl, by rw [List.length_map]; exact har, hsr⟩
  intro h4_2
  refine SPL_nil ?_
  refine thenP_n ?_
  refine SP_cond_t rfl ?_
  refine SP_skip ?_
  refine thenP_n ?_
  refine SP_seq ?_
  refine SP_block ?_
  refine SP_seq ?_
  have hfl : f < m.funcs.length := by omega
  obtain ⟨fn, hfe⟩ : ∃ fn, m.funcs[f] = fn := ⟨_, rfl⟩
  have hfn : m.funcs[f]? = some fn := by rw [List.getElem?_eq_getElem hfl, hfe]
  have hcl1 := hcl fn (hfe ▸ List.getElem_mem hfl)
  refine SP_region ?_
  refine SPL_y (y_move rfl) rfl ?_
  refine SPL_y (y_move rfl) rfl ?_
  refine SPL_one rfl (SP1_call (modm_Func b m sm (f : Int) hm) Tryz.call70 rfl rfl (by repeat (first | exact Part.nil _ | (apply Part.cons; (first | exact P0 | exact P1 | exact P2 | exact P3 | exact P4 | exact P5 | exact P6 | exact P7 | exact P8 | exact P9 | exact P10 | exact P11 | exact P12 | exact P13 | exact P14 | exact P15 | exact P16 | exact P17 | exact P18 | exact P19 | exact P20 | exact P21 | exact P22 | exact P23)) | (apply Part.flat; simp only [List.cons_append, List.nil_append]) | (apply Part.nilc))) ?_)
  rintro v post H' ⟨rfl, rfl⟩ hH
  try simp only [List.cons_append, List.nil_append] at hH
  subst hH
  rw [func0 hfn]
  dsimp only
  refine SPL_y (y_move rfl) rfl ?_
  refine SPL_y (y_ext rfl rfl) rfl ?_
  refine SPL_y (y_ext rfl rfl) rfl ?_
  refine SPL_y (y_ext rfl rfl) rfl ?_
  refine SPL_y (y_assign rfl) rfl ?_
  refine SPL_y (y_assign rfl) rfl ?_
  refine SPL_y (y_assign rfl) rfl ?_
  refine SPL_nil ?_
  refine thenP_n ?_
  refine SP_seq ?_
  refine SP_region ?_
  refine SPL_one rfl (SP1_slice0 el_34 rfl ?_)
  intro b35
  refine SPL_y (y_assign rfl) rfl ?_
  refine SPL_nil ?_
  refine thenP_n ?_
  refine SP_seq ?_
  refine SP_seq ?_
  refine SP_region ?_
  refine SPL_y (y_assign rfl) rfl ?_
  refine SPL_nil ?_
  refine thenP_n ?_
  refine SP_block ?_
  refine SP_loop (G := Nat × Option Addr × Nat × Seg) (fun g => fn.code.length - g.1) (fun g => [(0, .pointer (some ⟨b, 0, none⟩)), (7, pvp x), (8, I m.funcs.length), (9, I f), (12, I fn.code.length), (13, .slice g.2.1 g.1 g.2.2.1), (14, I g.1)]) (fun g => [blk x 119 [pvp pb, .slice ra f rc, pvp kb, .slice none 0 0, I 0, I 0, I 0, I 0, .bool false, S [], S []], sr, sx, sm, g.2.2.2]) (fun g => g.1 ≤ fn.code.length ∧ Arr 87 3 g.2.1 g.1 g.2.2.1 (codeV (fn.code.take g.1)) g.2.2.2) ((0, some ⟨b35, 0, none⟩, 0, blk b35 87 [])) (⟨Nat.zero_le _, Arr.full rfl⟩) (by repeat (first | exact Sub.nil _ | refine Sub.cons rfl ?_)) (by repeat (first | exact Part.nil _ | (apply Part.cons; (first | exact P0 | exact P1 | exact P2 | exact P3 | exact P4 | exact P5 | exact P6 | exact P7 | exact P8 | exact P9 | exact P10 | exact P11 | exact P12 | exact P13 | exact P14 | exact P15 | exact P16 | exact P17 | exact P18 | exact P19 | exact P20 | exact P21 | exact P22 | exact P23)) | (apply Part.flat; simp only [List.cons_append, List.nil_append]) | (apply Part.nilc))) ?_
  rintro ⟨i, sa, sc, sv⟩ ⟨hi, hsv⟩
  dsimp only at hi hsv ⊢
  refine SP_seq ?_
  refine SP_seq ?_
  refine SP_region ?_
  refine SPL_y (y_move rfl) rfl ?_
  refine SPL_y (y_move rfl) rfl ?_
  refine SPL_ifn (y_lss rfl rfl) rfl ?_ ?_
  · intro h9_2
    refine SPL_nil ?_
    refine thenP_n ?_
    refine SP_cond_f rfl ?_
    refine SP_exit ?_
    refine thenP_exit ?_
    refine thenP_exit ?_
    refine inBlockP_hit ?_
    refine thenP_n ?_
    refine SP_seq ?_
    refine SP_region ?_
    refine SPL_y (y_move rfl) rfl ?_
    refine SPL_y (y_nil rfl) rfl ?_
    refine SPL_y (y_fa fld_119_1 rfl) rfl ?_
    refine SPL_y (y_load Tryz.isAgg117 rfl (by repeat (first | exact Cell.head rfl | apply Cell.tail))) rfl ?_
    refine SPL_y (y_move rfl) rfl ?_
    refine SPL_one rfl (SP1_slice1 el_117 rfl rfl rfl rfl rfl ?_)
    intro b54
    refine SPL_one rfl (SP1_append el_117 (.inl Tryz.underlying117) rfl rfl har (by first | exact P0 | exact P1 | exact P2 | exact P3 | exact P4 | exact P5 | exact P6 | exact P7 | exact P8 | exact P9 | exact P10 | exact P11 | exact P12 | exact P13 | exact P14 | exact P15 | exact P16 | exact P17 | exact P18 | exact P19 | exact P20 | exact P21 | exact P22 | exact P23) (Src.of (by repeat (first | exact Cells.all _ | exact Cells.head rfl | apply Cells.tail)) (by rfl)) (by rfl) (by omega) rfl ?_)
    intro ra1 rc1 sr1 har1
    refine SPL_y (y_assign rfl) rfl ?_
    refine SPL_nil ?_
    refine thenP_n ?_
    refine SP_region ?_
    refine SPL_y (y_move rfl) rfl ?_
    refine SPL_y (y_move rfl) rfl ?_
    refine SPL_y (y_nil rfl) rfl ?_
    refine SPL_y (y_fa fld_119_1 rfl) rfl ?_
    refine SPL_one rfl (SP1_store Tryz.sizeOf117 rfl rfl rfl (by first | exact U0 | exact U1 | exact U2 | exact U3 | exact U4 | exact U5 | exact U6 | exact U7 | exact U8 | exact U9 | exact U10 | exact U11 | exact U12 | exact U13 | exact U14 | exact U15 | exact U16 | exact U17 | exact U18 | exact U19 | exact U20 | exact U21 | exact U22 | exact U23) (by rfl) ?_)
    refine SPL_nil ?_
    refine inBlockP_n ?_
    refine thenP_n ?_
    refine SP_region ?_
    refine SPL_y (y_move rfl) rfl ?_
    refine SPL_y (y_add rfl rfl (by omega)) rfl ?_
    refine SPL_y (y_assign rfl) rfl ?_
    refine SPL_nil ?_
    refine thenP_n ?_
    obtain rfl : i = fn.code.length := by omega
    rw [List.take_of_length_le (Nat.le_refl _)] at hsv
    exact Again.intro ((f + 1, ra1, rc1, cs ++ [.slice sa fn.code.length sc], sr1, List.flatten [sx, sv])) (⟨by dsimp only; omega, har1, by dsimp only; rw [List.take_succ_eq_append_getElem hfl, List.map_append]; rw [hfe]; exact hsr.snoc hsv⟩) (by simp only []; omega) (by repeat (first | exact Sub.nil _ | refine Sub.cons rfl ?_)) (by repeat (first | exact Part.nil _ | (apply Part.cons; (first | exact P0 | exact P1 | exact P2 | exact P3 | exact P4 | exact P5 | exact P6 | exact P7 | exact P8 | exact P9 | exact P10 | exact P11 | exact P12 | exact P13 | exact P14 | exact P15 | exact P16 | exact P17 | exact P18 | exact P19 | exact P20 | exact P21 | exact P22 | exact P23)) | (apply Part.flat; simp only [List.cons_append, List.nil_append]) | (apply Part.nilc)))
  intro h9_2
  refine SPL_nil ?_
  refine thenP_n ?_
  refine SP_cond_t rfl ?_
  refine SP_skip ?_
  refine thenP_n ?_
  refine SP_seq ?_
  refine SP_block ?_
  refine SP_seq ?_
  have hil : i < fn.code.length := by omega
  refine SP_region ?_
  refine SPL_y (y_move rfl) rfl ?_
  refine SPL_y (y_move rfl) rfl ?_
  refine SPL_y (y_move rfl) rfl ?_
  refine SPL_one rfl (SP1_call (modm_At b m sm (f : Int) (i : Int) hm) Tryz.call72 rfl rfl (by repeat (first | exact Part.nil _ | (apply Part.cons; (first | exact P0 | exact P1 | exact P2 | exact P3 | exact P4 | exact P5 | exact P6 | exact P7 | exact P8 | exact P9 | exact P10 | exact P11 | exact P12 | exact P13 | exact P14 | exact P15 | exact P16 | exact P17 | exact P18 | exact P19 | exact P20 | exact P21 | exact P22 | exact P23)) | (apply Part.flat; simp only [List.cons_append, List.nil_append]) | (apply Part.nilc))) ?_)
  rintro v post H' ⟨rfl, rfl⟩ hH
  try simp only [List.cons_append, List.nil_append] at hH
  subst hH
  rw [at0 hfn hil]
  refine SPL_one rfl (SP1_alloc Tryz.zeroValue87 rfl rfl ?_)
  intro b15
  refine SPL_one rfl (SP1_storeAll Tryz.sizeOf87 rfl rfl rfl rfl rfl (by first | exact U0 | exact U1 | exact U2 | exact U3 | exact U4 | exact U5 | exact U6 | exact U7 | exact U8 | exact U9 | exact U10 | exact U11 | exact U12 | exact U13 | exact U14 | exact U15 | exact U16 | exact U17 | exact U18 | exact U19 | exact U20 | exact U21 | exact U22 | exact U23) (by rfl) ?_)
  refine SPL_nil ?_
  refine thenP_n ?_
  refine SP_region ?_
  refine SPL_y (y_move rfl) rfl ?_
  refine SPL_y (y_loads Tryz.isAgg87 Tryz.sizeOf87 rfl rfl (by repeat (first | exact Cells.all _ | exact Cells.head rfl | apply Cells.tail))) rfl ?_
  refine SPL_one rfl (SP1_slice1 el_34 rfl rfl rfl rfl rfl ?_)
  intro b47
  refine SPL_one rfl (SP1_append el_34 (.inl Tryz.underlying34) rfl rfl hsv (by first | exact P0 | exact P1 | exact P2 | exact P3 | exact P4 | exact P5 | exact P6 | exact P7 | exact P8 | exact P9 | exact P10 | exact P11 | exact P12 | exact P13 | exact P14 | exact P15 | exact P16 | exact P17 | exact P18 | exact P19 | exact P20 | exact P21 | exact P22 | exact P23) (Src.of (by repeat (first | exact Cells.all _ | exact Cells.head rfl | apply Cells.tail)) (by rfl)) (by rfl) (by omega) rfl ?_)
  intro sa1 sc1 sv1 hsv1
  refine SPL_y (y_assign rfl) rfl ?_
  refine SPL_nil ?_
  refine inBlockP_n ?_
  refine thenP_n ?_
  refine SP_region ?_
  refine SPL_y (y_move rfl) rfl ?_
  refine SPL_y (y_add rfl rfl (by omega)) rfl ?_
  refine SPL_y (y_assign rfl) rfl ?_
  refine SPL_nil ?_
  refine thenP_n ?_
  exact Again.intro ((i + 1, sa1, sc1, sv1)) (⟨by dsimp only; omega, by dsimp only; rw [List.take_succ_eq_append_getElem hil, codeV_app]; exact hsv1⟩) (by simp only []; omega) (by repeat (first | exact Sub.nil _ | refine Sub.cons rfl ?_)) (by repeat (first | exact Part.nil _ | (apply Part.cons; (first | exact P0 | exact P1 | exact P2 | exact P3 | exact P4 | exact P5 | exact P6 | exact P7 | exact P8 | exact P9 | exact P10 | exact P11 | exact P12 | exact P13 | exact P14 | exact P15 | exact P16 | exact P17 | exact P18 | exact P19 | exact P20 | exact P21 | exact P22 | exact P23)) | (apply Part.flat; simp only [List.cons_append, List.nil_append]) | (apply Part.nilc)))

theorem rm_Show (x kb : Nat) (pv rv : Value) (E : RE) (R : RS) (s : Seg) (hm : isR x pv rv (.pointer (some ⟨kb, 0, none⟩)) E R s) (m : Mem) (sk : Seg) (hk : isMm kb m sk) : Spec Tryz.prog 50 [pvp x] [s, sk] (Ret fun v H => v = S (showMem m) ∧ H = [s, sk]) := by
  obtain ⟨sa, sc, ss, rfl, hst⟩ := hm
  refine Spec_flat ?_
  simp only [List.cons_append, List.nil_append, instR]
  refine Spec_enter Tryz.func50 rfl Tryz.ntmps50 rfl ?_
  show SP _ _ _ _ _ [(0, _)] _
  refine SP_seq ?_
  refine SP_region ?_
  refine SPL_y (y_assign rfl) rfl ?_
  refine SPL_nil ?_
  refine thenP_n ?_
  refine SP_seq ?_
  refine SP_region ?_
  refine SPL_y (y_move rfl) rfl ?_
  refine SPL_y (y_nil rfl) rfl ?_
  refine SPL_y (y_fa fld_119_2 rfl) rfl ?_
  refine SPL_y (y_load Tryz.isAgg63 rfl (by repeat (first | exact Cell.head rfl | apply Cell.tail))) rfl ?_
  refine SPL_one rfl (SP1_call (mm_Show kb m sk hk) Tryz.call76 rfl rfl (by repeat (first | exact Part.nil _ | (apply Part.cons; (first | exact P0 | exact P1 | exact P2 | exact P3 | exact P4 | exact P5 | exact P6 | exact P7 | exact P8 | exact P9 | exact P10 | exact P11 | exact P12 | exact P13 | exact P14 | exact P15 | exact P16 | exact P17 | exact P18 | exact P19 | exact P20 | exact P21 | exact P22 | exact P23)) | (apply Part.flat; simp only [List.cons_append, List.nil_append]) | (apply Part.nilc))) ?_)
  rintro v post H' ⟨rfl, rfl⟩ hH
  try simp only [List.cons_append, List.nil_append] at hH
  subst hH
  refine SPL_y (y_assign rfl) rfl ?_
  refine SPL_nil ?_
  refine thenP_n ?_
  refine SP_ret ?_
  refine bodyP_ret (H' := [List.flatten [blk x 119 (instR pv rv (.pointer (some ⟨kb, 0, none⟩)) (.slice sa R.st.length sc) E R), ss], sk]) (Res1 rfl rfl) (by repeat (first | exact Part.nil _ | (apply Part.cons; (first | exact P0 | exact P1 | exact P2 | exact P3 | exact P4 | exact P5 | exact P6 | exact P7 | exact P8 | exact P9 | exact P10 | exact P11 | exact P12 | exact P13 | exact P14 | exact P15 | exact P16 | exact P17 | exact P18 | exact P19 | exact P20 | exact P21 | exact P22 | exact P23)) | (apply Part.flat; simp only [List.cons_append, List.nil_append]) | (apply Part.nilc))) ?_
  exact ⟨rfl, rfl⟩

end Go.Sl
