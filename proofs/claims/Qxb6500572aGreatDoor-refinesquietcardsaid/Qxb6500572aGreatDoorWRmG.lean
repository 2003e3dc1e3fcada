/- Walks: package runm, calls (made by program out of short notes) -/
import Derived.Test.Qxb6500572aGreatDoorME
namespace Go.Sl
open Go Go.Wl Go.Proofs
set_option maxRecDepth 100000
set_option linter.unusedVariables false
set_option linter.unusedSimpArgs false
theorem askP_mem {E : RE} {R : RS} {g e : Int} {Rp : RS} (h : askP E R g = some (e, Rp)) : R.mem = Rp.mem := by
  unfold askP at h
  split at h
  case isFalse => cases h
  dsimp only at h
  repeat' split at h
  all_goals (simp only [Option.some.injEq, Prod.mk.injEq] at h; obtain ⟨_, rfl⟩ := h; rfl)

set_option maxHeartbeats 4000000 in
theorem rm_step_ask (x pb kb : Nat) (rv : Value) (E : RE) (R : RS) (s : Seg) (hm : isR x (.pointer (some ⟨pb, 0, none⟩)) rv (.pointer (some ⟨kb, 0, none⟩)) E R s) (la : Option Addr) (lc : Nat) (loc : List W) (sl : Seg) (hl : Arr 110 2 la loc.length lc (loc.flatMap wv) sl) (sk : Seg) (hk : isMm kb R.mem sk) (depth : Int) (c : Ins) (hS : Small R) (hlo : loc.length ≤ 100) (sp sx : Seg) (hC : RC E pb rv sp sx) (hpay : ¬ E.fuel ≤ R.used) (hop : c.op = 10) (hi : 0 ≤ c.imm ∧ c.imm ≤ 4294967295) (him : c.imm < E.P.nimp) (e : Int) (Rp : RS) (hask : askP E R.pay c.imm = some (e, Rp)) : Spec Tryz.prog 150 [.pointer (some ⟨x, 0, none⟩), .agg (insV c).toArray, .slice la loc.length lc, I depth] [s, sl, sk, sp, sx] (Ret (RPost x pb kb rv E sp sx la loc.length lc (-1, e, Rp, loc))) := by
  obtain ⟨fa, Pn, steps, hp, hPE, hfl⟩ := hC.pm
  have hfu := hC.fu
  have hni := hC.ni
  refine Spec_enter Tryz.func150 rfl Tryz.ntmps150 rfl ?_
  show SP _ _ _ _ _ [(0, _), (1, _), (2, _), (3, _)] _
  refine SP_seq ?_
  refine SP_region ?_
  refine SPL_one rfl (SP1_box rfl rfl rfl ?_)
  intro b5
  refine SPL_y (y_assign rfl) rfl ?_
  refine SPL_y (y_assign rfl) rfl ?_
  refine SPL_nil ?_
  refine thenP_n ?_
  refine SP_seq ?_
  refine SP_region ?_
  refine SPL_y (y_move rfl) rfl ?_
  refine SPL_one rfl (SP1_call (rm_pay x (.pointer (some ⟨pb, 0, none⟩)) rv (.pointer (some ⟨kb, 0, none⟩)) E R s hm hpay hS.us hfu) Tryz.call155 rfl rfl (by repeat (first | exact Part.nil _ | (apply Part.cons; (first | exact P0 | exact P1 | exact P2 | exact P3 | exact P4 | exact P5 | exact P6 | exact P7 | exact P8 | exact P9 | exact P10 | exact P11 | exact P12 | exact P13 | exact P14 | exact P15 | exact P16 | exact P17 | exact P18 | exact P19 | exact P20 | exact P21 | exact P22 | exact P23)) | (apply Part.flat; simp only [List.cons_append, List.nil_append]) | (apply Part.nilc))) ?_)
  rintro v post H' ⟨s1, rfl, rfl, hm1⟩ hH
  try simp only [List.cons_append, List.nil_append] at hH
  subst hH
  refine SPL_y (y_assign rfl) rfl ?_
  refine SPL_nil ?_
  refine thenP_n ?_
  refine SP_seq ?_
  refine SP_seq ?_
  refine SP_region ?_
  refine SPL_y (y_move rfl) rfl ?_
  refine SPL_y (y_neqNo rfl rfl (by decide)) rfl ?_
  refine SPL_nil ?_
  refine thenP_n ?_
  refine SP_cond_f rfl ?_
  refine SP_skip ?_
  refine thenP_n ?_
  refine SP_seq ?_
  refine SP_region ?_
  refine SPL_y (y_fa fld_87_0 rfl) rfl ?_
  refine SPL_y (y_load Tryz.isAgg3 rfl (by repeat (first | exact Cell.head rfl | apply Cell.tail))) rfl ?_
  refine SPL_one rfl (SP1_call (pm_Sig c.op) Tryz.call103 rfl rfl (by repeat (first | exact Part.nil _ | (apply Part.cons; (first | exact P0 | exact P1 | exact P2 | exact P3 | exact P4 | exact P5 | exact P6 | exact P7 | exact P8 | exact P9 | exact P10 | exact P11 | exact P12 | exact P13 | exact P14 | exact P15 | exact P16 | exact P17 | exact P18 | exact P19 | exact P20 | exact P21 | exact P22 | exact P23)) | (apply Part.flat; simp only [List.cons_append, List.nil_append]) | (apply Part.nilc))) ?_)
  rintro v post H' ⟨rfl, rfl⟩ hH
  try simp only [List.cons_append, List.nil_append] at hH
  subst hH
  rw [sigM_ctl (by omega) (by omega)]
  dsimp only
  refine SPL_y (y_move rfl) rfl ?_
  refine SPL_y (y_ext rfl rfl) rfl ?_
  refine SPL_y (y_ext rfl rfl) rfl ?_
  refine SPL_y (y_ext rfl rfl) rfl ?_
  refine SPL_y (y_assign rfl) rfl ?_
  refine SPL_y (y_assign rfl) rfl ?_
  refine SPL_y (y_assign rfl) rfl ?_
  refine SPL_nil ?_
  refine thenP_n ?_
  refine SP_seq ?_
  refine SP_region ?_
  refine SPL_y (y_build B110 rfl rfl (by simp only [fillL, List.foldl_cons, List.foldl_nil, List.set_cons_zero, List.set_cons_succ]; exact rfl)) rfl ?_
  refine SPL_y (y_build B110 rfl rfl (by simp only [fillL, List.foldl_cons, List.foldl_nil, List.set_cons_zero, List.set_cons_succ]; exact rfl)) rfl ?_
  refine SPL_one rfl (SP1_slice2 el_35 rfl rfl rfl rfl rfl ?_)
  intro b34
  refine SPL_y (y_assign rfl) rfl ?_
  refine SPL_nil ?_
  refine thenP_n ?_
  refine SP_seq ?_
  refine SP_seq ?_
  refine SP_region ?_
  refine SPL_y (y_move rfl) rfl ?_
  refine SPL_nil ?_
  refine thenP_n ?_
  refine SP_cond_f rfl ?_
  refine SP_skip ?_
  refine thenP_n ?_
  refine SP_seq ?_
  refine SP_region ?_
  refine SPL_y (y_assign rfl) rfl ?_
  refine SPL_y (y_assign rfl) rfl ?_
  refine SPL_nil ?_
  refine thenP_n ?_
  refine SP_seq ?_
  refine SP_block ?_
  refine SP_seq ?_
  refine SP_region ?_
  refine SPL_y (y_fa fld_87_0 rfl) rfl ?_
  refine SPL_y (y_load Tryz.isAgg3 rfl (by repeat (first | exact Cell.head rfl | apply Cell.tail))) rfl ?_
  refine SPL_y (y_eqlF rfl rfl (by omega)) rfl ?_
  refine SPL_y (y_assign rfl) rfl ?_
  refine SPL_nil ?_
  refine thenP_n ?_
  refine SP_cond_f rfl ?_
  refine SP_seq ?_
  refine SP_region ?_
  refine SPL_y (y_fa fld_87_0 rfl) rfl ?_
  refine SPL_y (y_load Tryz.isAgg3 rfl (by repeat (first | exact Cell.head rfl | apply Cell.tail))) rfl ?_
  refine SPL_y (y_eqlF rfl rfl (by omega)) rfl ?_
  refine SPL_y (y_assign rfl) rfl ?_
  refine SPL_nil ?_
  refine thenP_n ?_
  refine SP_cond_f rfl ?_
  refine SP_seq ?_
  refine SP_region ?_
  refine SPL_y (y_fa fld_87_0 rfl) rfl ?_
  refine SPL_y (y_load Tryz.isAgg3 rfl (by repeat (first | exact Cell.head rfl | apply Cell.tail))) rfl ?_
  refine SPL_y (y_eqlF rfl rfl (by omega)) rfl ?_
  refine SPL_y (y_assign rfl) rfl ?_
  refine SPL_nil ?_
  refine thenP_n ?_
  refine SP_cond_f rfl ?_
  refine SP_seq ?_
  refine SP_region ?_
  refine SPL_y (y_fa fld_87_0 rfl) rfl ?_
  refine SPL_y (y_load Tryz.isAgg3 rfl (by repeat (first | exact Cell.head rfl | apply Cell.tail))) rfl ?_
  refine SPL_y (y_eqlF rfl rfl (by omega)) rfl ?_
  refine SPL_y (y_assign rfl) rfl ?_
  refine SPL_nil ?_
  refine thenP_n ?_
  refine SP_cond_f rfl ?_
  refine SP_seq ?_
  refine SP_region ?_
  refine SPL_y (y_fa fld_87_0 rfl) rfl ?_
  refine SPL_y (y_load Tryz.isAgg3 rfl (by repeat (first | exact Cell.head rfl | apply Cell.tail))) rfl ?_
  refine SPL_y (y_eqlF rfl rfl (by omega)) rfl ?_
  refine SPL_y (y_assign rfl) rfl ?_
  refine SPL_nil ?_
  refine thenP_n ?_
  refine SP_cond_f rfl ?_
  refine SP_seq ?_
  refine SP_region ?_
  refine SPL_y (y_fa fld_87_0 rfl) rfl ?_
  refine SPL_y (y_load Tryz.isAgg3 rfl (by repeat (first | exact Cell.head rfl | apply Cell.tail))) rfl ?_
  refine SPL_y (y_eqlT rfl rfl hop) rfl ?_
  refine SPL_y (y_assign rfl) rfl ?_
  refine SPL_nil ?_
  refine thenP_n ?_
  refine SP_cond_t rfl ?_
  refine SP_seq ?_
  obtain ⟨sa1, sc1, ss1, rfl, hst1⟩ := hm1
  refine SP_openAt [blk x 119 (instR (.pointer (some ⟨pb, 0, none⟩)) rv (.pointer (some ⟨kb, 0, none⟩)) (.slice sa1 R.pay.st.length sc1) E R.pay), ss1] (by first | exact P0 | exact P1 | exact P2 | exact P3 | exact P4 | exact P5 | exact P6 | exact P7 | exact P8 | exact P9 | exact P10 | exact P11 | exact P12 | exact P13 | exact P14 | exact P15 | exact P16 | exact P17 | exact P18 | exact P19 | exact P20 | exact P21 | exact P22 | exact P23) ?_
  simp only [List.cons_append, List.nil_append, instR]
  refine SP_region ?_
  refine SPL_y (y_move rfl) rfl ?_
  refine SPL_y (y_nil rfl) rfl ?_
  refine SPL_y (y_fa fld_119_0 rfl) rfl ?_
  refine SPL_y (y_load Tryz.isAgg62 rfl (by repeat (first | exact Cell.head rfl | apply Cell.tail))) rfl ?_
  refine SPL_one rfl (SP1_call (pm_NImports pb fa Pn steps sp hp) Tryz.call105 rfl rfl (by repeat (first | exact Part.nil _ | (apply Part.cons; (first | exact P0 | exact P1 | exact P2 | exact P3 | exact P4 | exact P5 | exact P6 | exact P7 | exact P8 | exact P9 | exact P10 | exact P11 | exact P12 | exact P13 | exact P14 | exact P15 | exact P16 | exact P17 | exact P18 | exact P19 | exact P20 | exact P21 | exact P22 | exact P23)) | (apply Part.flat; simp only [List.cons_append, List.nil_append]) | (apply Part.nilc))) ?_)
  rintro v post H' ⟨rfl, rfl⟩ hH
  try simp only [List.cons_append, List.nil_append] at hH
  subst hH
  rw [show Pn.nimp = E.P.nimp by rw [hPE]; rfl]
  refine SPL_y (y_assign rfl) rfl ?_
  refine SPL_nil ?_
  refine thenP_n ?_
  refine SP_seq ?_
  refine SP_seq ?_
  refine SP_region ?_
  refine SPL_y (y_fa fld_87_1 rfl) rfl ?_
  refine SPL_y (y_load Tryz.isAgg3 rfl (by repeat (first | exact Cell.head rfl | apply Cell.tail))) rfl ?_
  refine SPL_y (y_move rfl) rfl ?_
  refine SPL_y (y_lssT rfl rfl him) rfl ?_
  refine SPL_nil ?_
  refine thenP_n ?_
  refine SP_cond_t rfl ?_
  refine SP_seq ?_
  refine SP_region ?_
  refine SPL_y (y_move rfl) rfl ?_
  refine SPL_y (y_fa fld_87_1 rfl) rfl ?_
  refine SPL_y (y_load Tryz.isAgg3 rfl (by repeat (first | exact Cell.head rfl | apply Cell.tail))) rfl ?_
  refine SPL_one rfl (SP1_call (rm_ask x pb rv (.pointer (some ⟨kb, 0, none⟩)) E R.pay _ (⟨sa1, sc1, ss1, rfl, hst1⟩ : isR x (.pointer (some ⟨pb, 0, none⟩)) rv (.pointer (some ⟨kb, 0, none⟩)) E R.pay (List.flatten [blk x 119 (instR (.pointer (some ⟨pb, 0, none⟩)) rv (.pointer (some ⟨kb, 0, none⟩)) (.slice sa1 R.pay.st.length sc1) E R.pay), ss1])) fa Pn steps sp hp hPE hfl c.imm ⟨by omega, by omega⟩ e Rp hask (Small.pay hS) (by have := (hC.sl c.imm).1; omega) (hC.sr c.imm) hC.tp) Tryz.call157 rfl rfl (by repeat (first | exact Part.nil _ | (apply Part.cons; (first | exact P0 | exact P1 | exact P2 | exact P3 | exact P4 | exact P5 | exact P6 | exact P7 | exact P8 | exact P9 | exact P10 | exact P11 | exact P12 | exact P13 | exact P14 | exact P15 | exact P16 | exact P17 | exact P18 | exact P19 | exact P20 | exact P21 | exact P22 | exact P23)) | (apply Part.flat; simp only [List.cons_append, List.nil_append]) | (apply Part.nilc))) ?_)
  rintro v post H' ⟨s2, st', rfl, rfl, hm2, hst'⟩ hH
  try simp only [List.cons_append, List.nil_append] at hH
  subst hH
  refine SPL_y (y_assign rfl) rfl ?_
  refine SPL_y (y_assign rfl) rfl ?_
  refine SPL_nil ?_
  refine thenP_n ?_
  refine SP_ret ?_
  refine thenP_ret (inBlockP_ret (thenP_ret (bodyP_ret (H' := [s2, sl, sk, sp, sx]) (Res2 rfl rfl rfl) (by repeat (first | exact Part.nil _ | (apply Part.cons; (first | exact P0 | exact P1 | exact P2 | exact P3 | exact P4 | exact P5 | exact P6 | exact P7 | exact P8 | exact P9 | exact P10 | exact P11 | exact P12 | exact P13 | exact P14 | exact P15 | exact P16 | exact P17 | exact P18 | exact P19 | exact P20 | exact P21 | exact P22 | exact P23)) | (apply Part.flat; simp only [List.cons_append, List.nil_append]) | (apply Part.nilc))) ?_)))
  exact ⟨_, _, _, st', rfl, rfl, hm2, hst', hl, (askP_mem hask) ▸ hk⟩

set_option maxHeartbeats 4000000 in
theorem rm_step_deep (x pb kb : Nat) (rv : Value) (E : RE) (R : RS) (s : Seg) (hm : isR x (.pointer (some ⟨pb, 0, none⟩)) rv (.pointer (some ⟨kb, 0, none⟩)) E R s) (la : Option Addr) (lc : Nat) (loc : List W) (sl : Seg) (hl : Arr 110 2 la loc.length lc (loc.flatMap wv) sl) (sk : Seg) (hk : isMm kb R.mem sk) (depth : Int) (c : Ins) (hS : Small R) (hlo : loc.length ≤ 100) (sp sx : Seg) (hC : RC E pb rv sp sx) (hpay : ¬ E.fuel ≤ R.used) (hop : c.op = 10) (hi : 0 ≤ c.imm ∧ c.imm ≤ 4294967295) (him : ¬ c.imm < E.P.nimp) (hd : 4 ≤ depth) : Spec Tryz.prog 150 [.pointer (some ⟨x, 0, none⟩), .agg (insV c).toArray, .slice la loc.length lc, I depth] [s, sl, sk, sp, sx] (Ret (RPost x pb kb rv E sp sx la loc.length lc (-1, 14, R.pay, loc))) := by
  obtain ⟨fa, Pn, steps, hp, hPE, hfl⟩ := hC.pm
  have hfu := hC.fu
  have hni := hC.ni
  refine Spec_enter Tryz.func150 rfl Tryz.ntmps150 rfl ?_
  show SP _ _ _ _ _ [(0, _), (1, _), (2, _), (3, _)] _
  refine SP_seq ?_
  refine SP_region ?_
  refine SPL_one rfl (SP1_box rfl rfl rfl ?_)
  intro b5
  refine SPL_y (y_assign rfl) rfl ?_
  refine SPL_y (y_assign rfl) rfl ?_
  refine SPL_nil ?_
  refine thenP_n ?_
  refine SP_seq ?_
  refine SP_region ?_
  refine SPL_y (y_move rfl) rfl ?_
  refine SPL_one rfl (SP1_call (rm_pay x (.pointer (some ⟨pb, 0, none⟩)) rv (.pointer (some ⟨kb, 0, none⟩)) E R s hm hpay hS.us hfu) Tryz.call155 rfl rfl (by repeat (first | exact Part.nil _ | (apply Part.cons; (first | exact P0 | exact P1 | exact P2 | exact P3 | exact P4 | exact P5 | exact P6 | exact P7 | exact P8 | exact P9 | exact P10 | exact P11 | exact P12 | exact P13 | exact P14 | exact P15 | exact P16 | exact P17 | exact P18 | exact P19 | exact P20 | exact P21 | exact P22 | exact P23)) | (apply Part.flat; simp only [List.cons_append, List.nil_append]) | (apply Part.nilc))) ?_)
  rintro v post H' ⟨s1, rfl, rfl, hm1⟩ hH
  try simp only [List.cons_append, List.nil_append] at hH
  subst hH
  refine SPL_y (y_assign rfl) rfl ?_
  refine SPL_nil ?_
  refine thenP_n ?_
  refine SP_seq ?_
  refine SP_seq ?_
  refine SP_region ?_
  refine SPL_y (y_move rfl) rfl ?_
  refine SPL_y (y_neqNo rfl rfl (by decide)) rfl ?_
  refine SPL_nil ?_
  refine thenP_n ?_
  refine SP_cond_f rfl ?_
  refine SP_skip ?_
  refine thenP_n ?_
  refine SP_seq ?_
  refine SP_region ?_
  refine SPL_y (y_fa fld_87_0 rfl) rfl ?_
  refine SPL_y (y_load Tryz.isAgg3 rfl (by repeat (first | exact Cell.head rfl | apply Cell.tail))) rfl ?_
  refine SPL_one rfl (SP1_call (pm_Sig c.op) Tryz.call103 rfl rfl (by repeat (first | exact Part.nil _ | (apply Part.cons; (first | exact P0 | exact P1 | exact P2 | exact P3 | exact P4 | exact P5 | exact P6 | exact P7 | exact P8 | exact P9 | exact P10 | exact P11 | exact P12 | exact P13 | exact P14 | exact P15 | exact P16 | exact P17 | exact P18 | exact P19 | exact P20 | exact P21 | exact P22 | exact P23)) | (apply Part.flat; simp only [List.cons_append, List.nil_append]) | (apply Part.nilc))) ?_)
  rintro v post H' ⟨rfl, rfl⟩ hH
  try simp only [List.cons_append, List.nil_append] at hH
  subst hH
  rw [sigM_ctl (by omega) (by omega)]
  dsimp only
  refine SPL_y (y_move rfl) rfl ?_
  refine SPL_y (y_ext rfl rfl) rfl ?_
  refine SPL_y (y_ext rfl rfl) rfl ?_
  refine SPL_y (y_ext rfl rfl) rfl ?_
  refine SPL_y (y_assign rfl) rfl ?_
  refine SPL_y (y_assign rfl) rfl ?_
  refine SPL_y (y_assign rfl) rfl ?_
  refine SPL_nil ?_
  refine thenP_n ?_
  refine SP_seq ?_
  refine SP_region ?_
  refine SPL_y (y_build B110 rfl rfl (by simp only [fillL, List.foldl_cons, List.foldl_nil, List.set_cons_zero, List.set_cons_succ]; exact rfl)) rfl ?_
  refine SPL_y (y_build B110 rfl rfl (by simp only [fillL, List.foldl_cons, List.foldl_nil, List.set_cons_zero, List.set_cons_succ]; exact rfl)) rfl ?_
  refine SPL_one rfl (SP1_slice2 el_35 rfl rfl rfl rfl rfl ?_)
  intro b34
  refine SPL_y (y_assign rfl) rfl ?_
  refine SPL_nil ?_
  refine thenP_n ?_
  refine SP_seq ?_
  refine SP_seq ?_
  refine SP_region ?_
  refine SPL_y (y_move rfl) rfl ?_
  refine SPL_nil ?_
  refine thenP_n ?_
  refine SP_cond_f rfl ?_
  refine SP_skip ?_
  refine thenP_n ?_
  refine SP_seq ?_
  refine SP_region ?_
  refine SPL_y (y_assign rfl) rfl ?_
  refine SPL_y (y_assign rfl) rfl ?_
  refine SPL_nil ?_
  refine thenP_n ?_
  refine SP_seq ?_
  refine SP_block ?_
  refine SP_seq ?_
  refine SP_region ?_
  refine SPL_y (y_fa fld_87_0 rfl) rfl ?_
  refine SPL_y (y_load Tryz.isAgg3 rfl (by repeat (first | exact Cell.head rfl | apply Cell.tail))) rfl ?_
  refine SPL_y (y_eqlF rfl rfl (by omega)) rfl ?_
  refine SPL_y (y_assign rfl) rfl ?_
  refine SPL_nil ?_
  refine thenP_n ?_
  refine SP_cond_f rfl ?_
  refine SP_seq ?_
  refine SP_region ?_
  refine SPL_y (y_fa fld_87_0 rfl) rfl ?_
  refine SPL_y (y_load Tryz.isAgg3 rfl (by repeat (first | exact Cell.head rfl | apply Cell.tail))) rfl ?_
  refine SPL_y (y_eqlF rfl rfl (by omega)) rfl ?_
  refine SPL_y (y_assign rfl) rfl ?_
  refine SPL_nil ?_
  refine thenP_n ?_
  refine SP_cond_f rfl ?_
  refine SP_seq ?_
  refine SP_region ?_
  refine SPL_y (y_fa fld_87_0 rfl) rfl ?_
  refine SPL_y (y_load Tryz.isAgg3 rfl (by repeat (first | exact Cell.head rfl | apply Cell.tail))) rfl ?_
  refine SPL_y (y_eqlF rfl rfl (by omega)) rfl ?_
  refine SPL_y (y_assign rfl) rfl ?_
  refine SPL_nil ?_
  refine thenP_n ?_
  refine SP_cond_f rfl ?_
  refine SP_seq ?_
  refine SP_region ?_
  refine SPL_y (y_fa fld_87_0 rfl) rfl ?_
  refine SPL_y (y_load Tryz.isAgg3 rfl (by repeat (first | exact Cell.head rfl | apply Cell.tail))) rfl ?_
  refine SPL_y (y_eqlF rfl rfl (by omega)) rfl ?_
  refine SPL_y (y_assign rfl) rfl ?_
  refine SPL_nil ?_
  refine thenP_n ?_
  refine SP_cond_f rfl ?_
  refine SP_seq ?_
  refine SP_region ?_
  refine SPL_y (y_fa fld_87_0 rfl) rfl ?_
  refine SPL_y (y_load Tryz.isAgg3 rfl (by repeat (first | exact Cell.head rfl | apply Cell.tail))) rfl ?_
  refine SPL_y (y_eqlF rfl rfl (by omega)) rfl ?_
  refine SPL_y (y_assign rfl) rfl ?_
  refine SPL_nil ?_
  refine thenP_n ?_
  refine SP_cond_f rfl ?_
  refine SP_seq ?_
  refine SP_region ?_
  refine SPL_y (y_fa fld_87_0 rfl) rfl ?_
  refine SPL_y (y_load Tryz.isAgg3 rfl (by repeat (first | exact Cell.head rfl | apply Cell.tail))) rfl ?_
  refine SPL_y (y_eqlT rfl rfl hop) rfl ?_
  refine SPL_y (y_assign rfl) rfl ?_
  refine SPL_nil ?_
  refine thenP_n ?_
  refine SP_cond_t rfl ?_
  refine SP_seq ?_
  obtain ⟨sa1, sc1, ss1, rfl, hst1⟩ := hm1
  refine SP_openAt [blk x 119 (instR (.pointer (some ⟨pb, 0, none⟩)) rv (.pointer (some ⟨kb, 0, none⟩)) (.slice sa1 R.pay.st.length sc1) E R.pay), ss1] (by first | exact P0 | exact P1 | exact P2 | exact P3 | exact P4 | exact P5 | exact P6 | exact P7 | exact P8 | exact P9 | exact P10 | exact P11 | exact P12 | exact P13 | exact P14 | exact P15 | exact P16 | exact P17 | exact P18 | exact P19 | exact P20 | exact P21 | exact P22 | exact P23) ?_
  simp only [List.cons_append, List.nil_append, instR]
  refine SP_region ?_
  refine SPL_y (y_move rfl) rfl ?_
  refine SPL_y (y_nil rfl) rfl ?_
  refine SPL_y (y_fa fld_119_0 rfl) rfl ?_
  refine SPL_y (y_load Tryz.isAgg62 rfl (by repeat (first | exact Cell.head rfl | apply Cell.tail))) rfl ?_
  refine SPL_one rfl (SP1_call (pm_NImports pb fa Pn steps sp hp) Tryz.call105 rfl rfl (by repeat (first | exact Part.nil _ | (apply Part.cons; (first | exact P0 | exact P1 | exact P2 | exact P3 | exact P4 | exact P5 | exact P6 | exact P7 | exact P8 | exact P9 | exact P10 | exact P11 | exact P12 | exact P13 | exact P14 | exact P15 | exact P16 | exact P17 | exact P18 | exact P19 | exact P20 | exact P21 | exact P22 | exact P23)) | (apply Part.flat; simp only [List.cons_append, List.nil_append]) | (apply Part.nilc))) ?_)
  rintro v post H' ⟨rfl, rfl⟩ hH
  try simp only [List.cons_append, List.nil_append] at hH
  subst hH
  rw [show Pn.nimp = E.P.nimp by rw [hPE]; rfl]
  refine SPL_y (y_assign rfl) rfl ?_
  refine SPL_nil ?_
  refine thenP_n ?_
  refine SP_seq ?_
  refine SP_seq ?_
  refine SP_region ?_
  refine SPL_y (y_fa fld_87_1 rfl) rfl ?_
  refine SPL_y (y_load Tryz.isAgg3 rfl (by repeat (first | exact Cell.head rfl | apply Cell.tail))) rfl ?_
  refine SPL_y (y_move rfl) rfl ?_
  refine SPL_y (y_lssNo rfl rfl him) rfl ?_
  refine SPL_nil ?_
  refine thenP_n ?_
  refine SP_cond_f rfl ?_
  refine SP_skip ?_
  refine thenP_n ?_
  refine SP_seq ?_
  refine SP_seq ?_
  refine SP_region ?_
  refine SPL_y (y_move rfl) rfl ?_
  refine SPL_y (y_geqYes rfl rfl hd) rfl ?_
  refine SPL_nil ?_
  refine thenP_n ?_
  refine SP_cond_t rfl ?_
  refine SP_seq ?_
  refine SP_region ?_
  refine SPL_y (y_assign rfl) rfl ?_
  refine SPL_y (y_assign rfl) rfl ?_
  refine SPL_nil ?_
  refine thenP_n ?_
  refine SP_ret ?_
  refine thenP_ret (inBlockP_ret (thenP_ret (bodyP_ret (H' := [List.flatten [blk x 119 (instR (.pointer (some ⟨pb, 0, none⟩)) rv (.pointer (some ⟨kb, 0, none⟩)) (.slice sa1 R.pay.st.length sc1) E R.pay), ss1], sl, sk, sp, sx]) (Res2 rfl rfl rfl) (by repeat (first | exact Part.nil _ | (apply Part.cons; (first | exact P0 | exact P1 | exact P2 | exact P3 | exact P4 | exact P5 | exact P6 | exact P7 | exact P8 | exact P9 | exact P10 | exact P11 | exact P12 | exact P13 | exact P14 | exact P15 | exact P16 | exact P17 | exact P18 | exact P19 | exact P20 | exact P21 | exact P22 | exact P23)) | (apply Part.flat; simp only [List.cons_append, List.nil_append]) | (apply Part.nilc))) ?_)))
  exact ⟨_, _, _, R.pay.st, rfl, rfl, ⟨sa1, sc1, ss1, rfl, hst1⟩, fun _ => rfl, hl, hk⟩

set_option maxHeartbeats 4000000 in
theorem rm_step_inv (x pb kb : Nat) (rv : Value) (E : RE) (R : RS) (s : Seg) (hm : isR x (.pointer (some ⟨pb, 0, none⟩)) rv (.pointer (some ⟨kb, 0, none⟩)) E R s) (la : Option Addr) (lc : Nat) (loc : List W) (sl : Seg) (hl : Arr 110 2 la loc.length lc (loc.flatMap wv) sl) (sk : Seg) (hk : isMm kb R.mem sk) (depth : Int) (c : Ins) (hS : Small R) (hlo : loc.length ≤ 100) (sp sx : Seg) (hC : RC E pb rv sp sx) (hpay : ¬ E.fuel ≤ R.used) (hop : c.op = 10) (hi : 0 ≤ c.imm ∧ c.imm ≤ 4294967295) (him : ¬ c.imm < E.P.nimp) (hd : ¬ 4 ≤ depth) (hd0 : 0 ≤ depth) (n : Nat) (hI : InvOk E x pb kb rv sp sx n) (r : Int × RS) (hinv : invP E (runM E n) R.pay c.imm (depth + 1) = some r) : Spec Tryz.prog 150 [.pointer (some ⟨x, 0, none⟩), .agg (insV c).toArray, .slice la loc.length lc, I depth] [s, sl, sk, sp, sx] (Ret (RPost x pb kb rv E sp sx la loc.length lc (-1, r.1, r.2, loc))) := by
  obtain ⟨fa, Pn, steps, hp, hPE, hfl⟩ := hC.pm
  have hfu := hC.fu
  have hni := hC.ni
  refine Spec_enter Tryz.func150 rfl Tryz.ntmps150 rfl ?_
  show SP _ _ _ _ _ [(0, _), (1, _), (2, _), (3, _)] _
  refine SP_seq ?_
  refine SP_region ?_
  refine SPL_one rfl (SP1_box rfl rfl rfl ?_)
  intro b5
  refine SPL_y (y_assign rfl) rfl ?_
  refine SPL_y (y_assign rfl) rfl ?_
  refine SPL_nil ?_
  refine thenP_n ?_
  refine SP_seq ?_
  refine SP_region ?_
  refine SPL_y (y_move rfl) rfl ?_
  refine SPL_one rfl (SP1_call (rm_pay x (.pointer (some ⟨pb, 0, none⟩)) rv (.pointer (some ⟨kb, 0, none⟩)) E R s hm hpay hS.us hfu) Tryz.call155 rfl rfl (by repeat (first | exact Part.nil _ | (apply Part.cons; (first | exact P0 | exact P1 | exact P2 | exact P3 | exact P4 | exact P5 | exact P6 | exact P7 | exact P8 | exact P9 | exact P10 | exact P11 | exact P12 | exact P13 | exact P14 | exact P15 | exact P16 | exact P17 | exact P18 | exact P19 | exact P20 | exact P21 | exact P22 | exact P23)) | (apply Part.flat; simp only [List.cons_append, List.nil_append]) | (apply Part.nilc))) ?_)
  rintro v post H' ⟨s1, rfl, rfl, hm1⟩ hH
  try simp only [List.cons_append, List.nil_append] at hH
  subst hH
  refine SPL_y (y_assign rfl) rfl ?_
  refine SPL_nil ?_
  refine thenP_n ?_
  refine SP_seq ?_
  refine SP_seq ?_
  refine SP_region ?_
  refine SPL_y (y_move rfl) rfl ?_
  refine SPL_y (y_neqNo rfl rfl (by decide)) rfl ?_
  refine SPL_nil ?_
  refine thenP_n ?_
  refine SP_cond_f rfl ?_
  refine SP_skip ?_
  refine thenP_n ?_
  refine SP_seq ?_
  refine SP_region ?_
  refine SPL_y (y_fa fld_87_0 rfl) rfl ?_
  refine SPL_y (y_load Tryz.isAgg3 rfl (by repeat (first | exact Cell.head rfl | apply Cell.tail))) rfl ?_
  refine SPL_one rfl (SP1_call (pm_Sig c.op) Tryz.call103 rfl rfl (by repeat (first | exact Part.nil _ | (apply Part.cons; (first | exact P0 | exact P1 | exact P2 | exact P3 | exact P4 | exact P5 | exact P6 | exact P7 | exact P8 | exact P9 | exact P10 | exact P11 | exact P12 | exact P13 | exact P14 | exact P15 | exact P16 | exact P17 | exact P18 | exact P19 | exact P20 | exact P21 | exact P22 | exact P23)) | (apply Part.flat; simp only [List.cons_append, List.nil_append]) | (apply Part.nilc))) ?_)
  rintro v post H' ⟨rfl, rfl⟩ hH
  try simp only [List.cons_append, List.nil_append] at hH
  subst hH
  rw [sigM_ctl (by omega) (by omega)]
  dsimp only
  refine SPL_y (y_move rfl) rfl ?_
  refine SPL_y (y_ext rfl rfl) rfl ?_
  refine SPL_y (y_ext rfl rfl) rfl ?_
  refine SPL_y (y_ext rfl rfl) rfl ?_
  refine SPL_y (y_assign rfl) rfl ?_
  refine SPL_y (y_assign rfl) rfl ?_
  refine SPL_y (y_assign rfl) rfl ?_
  refine SPL_nil ?_
  refine thenP_n ?_
  refine SP_seq ?_
  refine SP_region ?_
  refine SPL_y (y_build B110 rfl rfl (by simp only [fillL, List.foldl_cons, List.foldl_nil, List.set_cons_zero, List.set_cons_succ]; exact rfl)) rfl ?_
  refine SPL_y (y_build B110 rfl rfl (by simp only [fillL, List.foldl_cons, List.foldl_nil, List.set_cons_zero, List.set_cons_succ]; exact rfl)) rfl ?_
  refine SPL_one rfl (SP1_slice2 el_35 rfl rfl rfl rfl rfl ?_)
  intro b34
  refine SPL_y (y_assign rfl) rfl ?_
  refine SPL_nil ?_
  refine thenP_n ?_
  refine SP_seq ?_
  refine SP_seq ?_
  refine SP_region ?_
  refine SPL_y (y_move rfl) rfl ?_
  refine SPL_nil ?_
  refine thenP_n ?_
  refine SP_cond_f rfl ?_
  refine SP_skip ?_
  refine thenP_n ?_
  refine SP_seq ?_
  refine SP_region ?_
  refine SPL_y (y_assign rfl) rfl ?_
  refine SPL_y (y_assign rfl) rfl ?_
  refine SPL_nil ?_
  refine thenP_n ?_
  refine SP_seq ?_
  refine SP_block ?_
  refine SP_seq ?_
  refine SP_region ?_
  refine SPL_y (y_fa fld_87_0 rfl) rfl ?_
  refine SPL_y (y_load Tryz.isAgg3 rfl (by repeat (first | exact Cell.head rfl | apply Cell.tail))) rfl ?_
  refine SPL_y (y_eqlF rfl rfl (by omega)) rfl ?_
  refine SPL_y (y_assign rfl) rfl ?_
  refine SPL_nil ?_
  refine thenP_n ?_
  refine SP_cond_f rfl ?_
  refine SP_seq ?_
  refine SP_region ?_
  refine SPL_y (y_fa fld_87_0 rfl) rfl ?_
  refine SPL_y (y_load Tryz.isAgg3 rfl (by repeat (first | exact Cell.head rfl | apply Cell.tail))) rfl ?_
  refine SPL_y (y_eqlF rfl rfl (by omega)) rfl ?_
  refine SPL_y (y_assign rfl) rfl ?_
  refine SPL_nil ?_
  refine thenP_n ?_
  refine SP_cond_f rfl ?_
  refine SP_seq ?_
  refine SP_region ?_
  refine SPL_y (y_fa fld_87_0 rfl) rfl ?_
  refine SPL_y (y_load Tryz.isAgg3 rfl (by repeat (first | exact Cell.head rfl | apply Cell.tail))) rfl ?_
  refine SPL_y (y_eqlF rfl rfl (by omega)) rfl ?_
  refine SPL_y (y_assign rfl) rfl ?_
  refine SPL_nil ?_
  refine thenP_n ?_
  refine SP_cond_f rfl ?_
  refine SP_seq ?_
  refine SP_region ?_
  refine SPL_y (y_fa fld_87_0 rfl) rfl ?_
  refine SPL_y (y_load Tryz.isAgg3 rfl (by repeat (first | exact Cell.head rfl | apply Cell.tail))) rfl ?_
  refine SPL_y (y_eqlF rfl rfl (by omega)) rfl ?_
  refine SPL_y (y_assign rfl) rfl ?_
  refine SPL_nil ?_
  refine thenP_n ?_
  refine SP_cond_f rfl ?_
  refine SP_seq ?_
  refine SP_region ?_
  refine SPL_y (y_fa fld_87_0 rfl) rfl ?_
  refine SPL_y (y_load Tryz.isAgg3 rfl (by repeat (first | exact Cell.head rfl | apply Cell.tail))) rfl ?_
  refine SPL_y (y_eqlF rfl rfl (by omega)) rfl ?_
  refine SPL_y (y_assign rfl) rfl ?_
  refine SPL_nil ?_
  refine thenP_n ?_
  refine SP_cond_f rfl ?_
  refine SP_seq ?_
  refine SP_region ?_
  refine SPL_y (y_fa fld_87_0 rfl) rfl ?_
  refine SPL_y (y_load Tryz.isAgg3 rfl (by repeat (first | exact Cell.head rfl | apply Cell.tail))) rfl ?_
  refine SPL_y (y_eqlT rfl rfl hop) rfl ?_
  refine SPL_y (y_assign rfl) rfl ?_
  refine SPL_nil ?_
  refine thenP_n ?_
  refine SP_cond_t rfl ?_
  refine SP_seq ?_
  obtain ⟨sa1, sc1, ss1, rfl, hst1⟩ := hm1
  refine SP_openAt [blk x 119 (instR (.pointer (some ⟨pb, 0, none⟩)) rv (.pointer (some ⟨kb, 0, none⟩)) (.slice sa1 R.pay.st.length sc1) E R.pay), ss1] (by first | exact P0 | exact P1 | exact P2 | exact P3 | exact P4 | exact P5 | exact P6 | exact P7 | exact P8 | exact P9 | exact P10 | exact P11 | exact P12 | exact P13 | exact P14 | exact P15 | exact P16 | exact P17 | exact P18 | exact P19 | exact P20 | exact P21 | exact P22 | exact P23) ?_
  simp only [List.cons_append, List.nil_append, instR]
  refine SP_region ?_
  refine SPL_y (y_move rfl) rfl ?_
  refine SPL_y (y_nil rfl) rfl ?_
  refine SPL_y (y_fa fld_119_0 rfl) rfl ?_
  refine SPL_y (y_load Tryz.isAgg62 rfl (by repeat (first | exact Cell.head rfl | apply Cell.tail))) rfl ?_
  refine SPL_one rfl (SP1_call (pm_NImports pb fa Pn steps sp hp) Tryz.call105 rfl rfl (by repeat (first | exact Part.nil _ | (apply Part.cons; (first | exact P0 | exact P1 | exact P2 | exact P3 | exact P4 | exact P5 | exact P6 | exact P7 | exact P8 | exact P9 | exact P10 | exact P11 | exact P12 | exact P13 | exact P14 | exact P15 | exact P16 | exact P17 | exact P18 | exact P19 | exact P20 | exact P21 | exact P22 | exact P23)) | (apply Part.flat; simp only [List.cons_append, List.nil_append]) | (apply Part.nilc))) ?_)
  rintro v post H' ⟨rfl, rfl⟩ hH
  try simp only [List.cons_append, List.nil_append] at hH
  subst hH
  rw [show Pn.nimp = E.P.nimp by rw [hPE]; rfl]
  refine SPL_y (y_assign rfl) rfl ?_
  refine SPL_nil ?_
  refine thenP_n ?_
  refine SP_seq ?_
  refine SP_seq ?_
  refine SP_region ?_
  refine SPL_y (y_fa fld_87_1 rfl) rfl ?_
  refine SPL_y (y_load Tryz.isAgg3 rfl (by repeat (first | exact Cell.head rfl | apply Cell.tail))) rfl ?_
  refine SPL_y (y_move rfl) rfl ?_
  refine SPL_y (y_lssNo rfl rfl him) rfl ?_
  refine SPL_nil ?_
  refine thenP_n ?_
  refine SP_cond_f rfl ?_
  refine SP_skip ?_
  refine thenP_n ?_
  refine SP_seq ?_
  refine SP_seq ?_
  refine SP_region ?_
  refine SPL_y (y_move rfl) rfl ?_
  refine SPL_y (y_geqNo rfl rfl hd) rfl ?_
  refine SPL_nil ?_
  refine thenP_n ?_
  refine SP_cond_f rfl ?_
  refine SP_skip ?_
  refine thenP_n ?_
  refine SP_seq ?_
  refine SP_region ?_
  refine SPL_y (y_move rfl) rfl ?_
  refine SPL_y (y_fa fld_87_1 rfl) rfl ?_
  refine SPL_y (y_load Tryz.isAgg3 rfl (by repeat (first | exact Cell.head rfl | apply Cell.tail))) rfl ?_
  refine SPL_y (y_move rfl) rfl ?_
  refine SPL_y (y_add rfl rfl (by omega)) rfl ?_
  refine SPL_one rfl (SP1_call (hI R.pay _ sk c.imm (depth + 1) r (⟨sa1, sc1, ss1, rfl, hst1⟩ : isR x (.pointer (some ⟨pb, 0, none⟩)) rv (.pointer (some ⟨kb, 0, none⟩)) E R.pay (List.flatten [blk x 119 (instR (.pointer (some ⟨pb, 0, none⟩)) rv (.pointer (some ⟨kb, 0, none⟩)) (.slice sa1 R.pay.st.length sc1) E R.pay), ss1])) (Small.pay hS) hk ⟨by omega, by omega⟩ ⟨by omega, by omega⟩ hinv) Tryz.call107 rfl rfl (by repeat (first | exact Part.nil _ | (apply Part.cons; (first | exact P0 | exact P1 | exact P2 | exact P3 | exact P4 | exact P5 | exact P6 | exact P7 | exact P8 | exact P9 | exact P10 | exact P11 | exact P12 | exact P13 | exact P14 | exact P15 | exact P16 | exact P17 | exact P18 | exact P19 | exact P20 | exact P21 | exact P22 | exact P23)) | (apply Part.flat; simp only [List.cons_append, List.nil_append]) | (apply Part.nilc))) ?_)
  rintro v post H' ⟨s2, sk2, st', rfl, rfl, hm2, hst', hk2⟩ hH
  try simp only [List.cons_append, List.nil_append] at hH
  subst hH
  refine SPL_y (y_assign rfl) rfl ?_
  refine SPL_y (y_assign rfl) rfl ?_
  refine SPL_nil ?_
  refine thenP_n ?_
  refine SP_ret ?_
  refine inBlockP_ret (thenP_ret (bodyP_ret (H' := [s2, sl, sk2, sp, sx]) (Res2 rfl rfl rfl) (by repeat (first | exact Part.nil _ | (apply Part.cons; (first | exact P0 | exact P1 | exact P2 | exact P3 | exact P4 | exact P5 | exact P6 | exact P7 | exact P8 | exact P9 | exact P10 | exact P11 | exact P12 | exact P13 | exact P14 | exact P15 | exact P16 | exact P17 | exact P18 | exact P19 | exact P20 | exact P21 | exact P22 | exact P23)) | (apply Part.flat; simp only [List.cons_append, List.nil_append]) | (apply Part.nilc))) ?_))
  exact ⟨_, _, _, st', rfl, rfl, hm2, hst', hl, hk2⟩

theorem rm_step_dry (x pb kb : Nat) (rv : Value) (E : RE) (R : RS) (s : Seg) (hm : isR x (.pointer (some ⟨pb, 0, none⟩)) rv (.pointer (some ⟨kb, 0, none⟩)) E R s) (la : Option Addr) (lc : Nat) (loc : List W) (sl : Seg) (hl : Arr 110 2 la loc.length lc (loc.flatMap wv) sl) (sk : Seg) (hk : isMm kb R.mem sk) (depth : Int) (c : Ins) (hS : Small R) (hfu : E.fuel ≤ 9223372036854775807) (hlo : loc.length ≤ 100) (hdry : E.fuel ≤ R.used) : Spec Tryz.prog 150 [.pointer (some ⟨x, 0, none⟩), .agg (insV c).toArray, .slice la loc.length lc, I depth] [s, sl, sk] (Ret fun v H => ∃ s' sl' sk', v = .tuple #[I (-1), I 17] ∧ H = [s', sl', sk'] ∧ isR x (.pointer (some ⟨pb, 0, none⟩)) rv (.pointer (some ⟨kb, 0, none⟩)) E R.tick s' ∧ Arr 110 2 la loc.length lc ((loc).flatMap wv) sl' ∧ isMm kb (R.tick : RS).mem sk') := by
  refine Spec_enter Tryz.func150 rfl Tryz.ntmps150 rfl ?_
  show SP _ _ _ _ _ [(0, _), (1, _), (2, _), (3, _)] _
  refine SP_seq ?_
  refine SP_region ?_
  refine SPL_one rfl (SP1_box rfl rfl rfl ?_)
  intro b5
  refine SPL_y (y_assign rfl) rfl ?_
  refine SPL_y (y_assign rfl) rfl ?_
  refine SPL_nil ?_
  refine thenP_n ?_
  refine SP_seq ?_
  refine SP_region ?_
  refine SPL_y (y_move rfl) rfl ?_
  refine SPL_one rfl (SP1_call (rm_payN x (.pointer (some ⟨pb, 0, none⟩)) rv (.pointer (some ⟨kb, 0, none⟩)) E R s hm hdry) Tryz.call155 rfl rfl (by repeat (first | exact Part.nil _ | (apply Part.cons; (first | exact P0 | exact P1 | exact P2 | exact P3 | exact P4 | exact P5 | exact P6 | exact P7 | exact P8 | exact P9 | exact P10 | exact P11 | exact P12 | exact P13 | exact P14 | exact P15 | exact P16 | exact P17 | exact P18 | exact P19 | exact P20 | exact P21 | exact P22 | exact P23)) | (apply Part.flat; simp only [List.cons_append, List.nil_append]) | (apply Part.nilc))) ?_)
  rintro v post H' ⟨s1, rfl, rfl, hm1⟩ hH
  try simp only [List.cons_append, List.nil_append] at hH
  subst hH
  refine SPL_y (y_assign rfl) rfl ?_
  refine SPL_nil ?_
  refine thenP_n ?_
  refine SP_seq ?_
  refine SP_seq ?_
  refine SP_region ?_
  refine SPL_y (y_move rfl) rfl ?_
  refine SPL_y (y_neqYes rfl rfl (by decide)) rfl ?_
  refine SPL_nil ?_
  refine thenP_n ?_
  refine SP_cond_t rfl ?_
  refine SP_seq ?_
  refine SP_region ?_
  refine SPL_y (y_move rfl) rfl ?_
  refine SPL_y (y_assign rfl) rfl ?_
  refine SPL_y (y_assign rfl) rfl ?_
  refine SPL_nil ?_
  refine thenP_n ?_
  refine SP_ret ?_
  refine thenP_ret (bodyP_ret (H' := [s1, sl, sk]) (Res2 rfl rfl rfl) (by repeat (first | exact Part.nil _ | (apply Part.cons; (first | exact P0 | exact P1 | exact P2 | exact P3 | exact P4 | exact P5 | exact P6 | exact P7 | exact P8 | exact P9 | exact P10 | exact P11 | exact P12 | exact P13 | exact P14 | exact P15 | exact P16 | exact P17 | exact P18 | exact P19 | exact P20 | exact P21 | exact P22 | exact P23)) | (apply Part.flat; simp only [List.cons_append, List.nil_append]) | (apply Part.nilc))) ?_)
  exact ⟨_, _, _, rfl, rfl, hm1, hl, hk⟩

theorem frame5 {x pb kb : Nat} {rv : Value} {E : RE} {args : List Value} {s sl sk : Seg} (sp sx : Seg) {la : Option Addr} {n lc : Nat} {br e : Int} {R' : RS} {loc' : List W}
    (h : Spec Tryz.prog 150 args [s, sl, sk] (Ret fun v H => ∃ s' sl' sk', v = .tuple #[I br, I e] ∧ H = [s', sl', sk'] ∧ isR x (pvp pb) rv (pvp kb) E R' s' ∧ Arr 110 2 la n lc (loc'.flatMap wv) sl' ∧ isMm kb R'.mem sk')) :
    Spec Tryz.prog 150 args [s, sl, sk, sp, sx] (Ret (RPost x pb kb rv E sp sx la n lc (br, e, R', loc'))) := by
  refine Spec_frame (rest := [sp, sx]) h ?_ ?_
  · exact Part.cons P0 (Part.cons P0 (Part.cons P0 (Part.nil _)))
  · rintro v post ⟨s', sl', sk', rfl, rfl, h1, h2, h3⟩
    exact ⟨[s', sl', sk', sp, sx], [], ⟨s', sl', sk', R'.st, rfl, rfl, h1, fun _ => rfl, h2, h3⟩, by simp [Part]⟩
theorem rm_stepM (x pb kb : Nat) (rv : Value) (E : RE) (R : RS) (s : Seg) (hm : isR x (.pointer (some ⟨pb, 0, none⟩)) rv (.pointer (some ⟨kb, 0, none⟩)) E R s) (la : Option Addr) (lc : Nat) (loc : List W) (sl : Seg) (hl : Arr 110 2 la loc.length lc (loc.flatMap wv) sl) (sk : Seg) (hk : isMm kb R.mem sk) (depth : Int) (c : Ins) (hS : Small R) (hlo : loc.length ≤ 100) (sp sx : Seg) (hC : RC E pb rv sp sx) (hw : well c = true) (hno : c.op = 0 ∨ 6 ≤ c.op) (hd : 0 ≤ depth ∧ depth ≤ 100) (n : Nat) (hI : InvOk E x pb kb rv sp sx n) (r : RR) (h : stepM E (runM E n) R loc c depth = some r) : Spec Tryz.prog 150 [.pointer (some ⟨x, 0, none⟩), .agg (insV c).toArray, .slice la loc.length lc, I depth] [s, sl, sk, sp, sx] (Ret (RPost x pb kb rv E sp sx la loc.length lc r)) := by
  have hwg := well_ge hw
  have hfu := hC.fu
  unfold stepM at h
  by_cases hpay : E.fuel ≤ R.used
  · rw [if_pos hpay] at h
    simp only [Option.some.injEq] at h
    subst h
    exact frame5 sp sx (rm_step_dry x pb kb rv E R s hm la lc loc sl hl sk hk depth c hS hfu hlo hpay)
  rw [if_neg hpay] at h
  by_cases hop : c.op = 10
  · rw [if_pos hop] at h
    have hi := hwg.1 (by omega)
    by_cases him : c.imm < E.P.nimp
    · rw [if_pos him] at h
      obtain ⟨⟨e, Rp⟩, h1, rfl⟩ := Option.map_eq_some_iff.1 h
      exact rm_step_ask x pb kb rv E R s hm la lc loc sl hl sk hk depth c hS hlo sp sx hC hpay hop hi him e Rp h1
    · rw [if_neg him] at h
      by_cases hdp : 4 ≤ depth
      · rw [if_pos hdp] at h
        simp only [Option.some.injEq] at h
        subst h
        exact rm_step_deep x pb kb rv E R s hm la lc loc sl hl sk hk depth c hS hlo sp sx hC hpay hop hi him hdp
      · rw [if_neg hdp] at h
        obtain ⟨r1, h1, rfl⟩ := Option.map_eq_some_iff.1 h
        exact rm_step_inv x pb kb rv E R s hm la lc loc sl hl sk hk depth c hS hlo sp sx hC hpay hop hi him hdp hd.1 n hI r1 h1
  · rw [if_neg hop] at h
    obtain ⟨br, e, R', loc'⟩ := r
    exact frame5 sp sx (rm_stepP x pb kb rv E R s hm la lc loc sl hl sk hk depth c hS hfu hlo hpay hw hno hop br e R' loc' h)

end Go.Sl
