/- Walks: towerlaw, the model side plays a step (made by program out of short notes) -/
import Derived.Test.Qxb6500572aGreatDoorWTmA
import Derived.Test.Qxb6500572aGreatDoorWLawD
namespace Go.Sl
open Go Go.Wl Go.Proofs
set_option maxRecDepth 100000
set_option linter.unusedVariables false
set_option linter.unusedSimpArgs false
theorem tm_ShowM (rb pb kb x : Nat) (M : Mw) (fa : Option Addr) (rv : Value) (s sx sp sk : Seg) (E : RE) (R : RS) (hp : isPm pb fa M.P 0 sp) (hk : isMm kb M.mem sk) (hx : isR x (pvp pb) rv (pvp kb) E R s) (hB : ProgB M.P.flat) (hb1 : (showProg M.P.flat).length ≤ 1000000000) (hb2 : (showMem M.mem).length ≤ 1000000000) : Spec Tryz.prog 28 [pvp rb] [blk rb 66 [pvp pb, pvp kb, pvp x], s, sx, sp, sk] (Ret fun v H => v = S (showProg M.P.flat ++ [124] ++ showMem M.mem) ∧ H = [blk rb 66 [pvp pb, pvp kb, pvp x], s, sx, sp, sk]) := by
  refine Spec_enter Tryz.func28 rfl Tryz.ntmps28 rfl ?_
  show SP _ _ _ _ _ [(0, _)] _
  refine SP_seq ?_
  refine SP_region ?_
  refine SPL_y (y_assign rfl) rfl ?_
  refine SPL_nil ?_
  refine thenP_n ?_
  refine SP_seq ?_
  refine SP_region ?_
  refine SPL_y (y_move rfl) rfl ?_
  refine SPL_y (y_nil rfl) rfl ?_
  refine SPL_y (y_fa fld_66_0 rfl) rfl ?_
  refine SPL_y (y_load Tryz.isAgg62 rfl (by repeat (first | exact Cell.head rfl | apply Cell.tail))) rfl ?_
  refine SPL_one rfl (SP1_call (pm_Show pb fa M.P 0 sp hp hB) Tryz.call49 rfl rfl (by repeat (first | exact Part.nil _ | (apply Part.cons; (first | exact P0 | exact P1 | exact P2 | exact P3 | exact P4 | exact P5 | exact P6 | exact P7 | exact P8 | exact P9 | exact P10 | exact P11 | exact P12 | exact P13 | exact P14 | exact P15 | exact P16 | exact P17 | exact P18 | exact P19 | exact P20 | exact P21 | exact P22 | exact P23)) | (apply Part.flat; simp only [List.cons_append, List.nil_append]) | (apply Part.nilc))) ?_)
  rintro v post H' ⟨rfl, rfl⟩ hH
  try simp only [List.cons_append, List.nil_append] at hH
  subst hH
  refine SPL_y (y_assign rfl) rfl ?_
  refine SPL_nil ?_
  refine thenP_n ?_
  refine SP_seq ?_
  refine SP_region ?_
  refine SPL_y (y_move rfl) rfl ?_
  refine SPL_y (y_cat rfl rfl (by simp only [List.length_cons, List.length_nil]; omega)) rfl ?_
  refine SPL_y (y_move rfl) rfl ?_
  refine SPL_y (y_nil rfl) rfl ?_
  refine SPL_y (y_fa fld_66_2 rfl) rfl ?_
  refine SPL_y (y_load Tryz.isAgg64 rfl (by repeat (first | exact Cell.head rfl | apply Cell.tail))) rfl ?_
  refine SPL_one rfl (SP1_call (rm_Show x kb (pvp pb) rv E R s hx M.mem sk hk) Tryz.call50 rfl rfl (by repeat (first | exact Part.nil _ | (apply Part.cons; (first | exact P0 | exact P1 | exact P2 | exact P3 | exact P4 | exact P5 | exact P6 | exact P7 | exact P8 | exact P9 | exact P10 | exact P11 | exact P12 | exact P13 | exact P14 | exact P15 | exact P16 | exact P17 | exact P18 | exact P19 | exact P20 | exact P21 | exact P22 | exact P23)) | (apply Part.flat; simp only [List.cons_append, List.nil_append]) | (apply Part.nilc))) ?_)
  rintro v post H' ⟨rfl, rfl⟩ hH
  try simp only [List.cons_append, List.nil_append] at hH
  subst hH
  refine SPL_y (y_cat rfl rfl (by simp only [List.length_append, List.length_cons, List.length_nil]; omega)) rfl ?_
  refine SPL_y (y_assign rfl) rfl ?_
  refine SPL_nil ?_
  refine thenP_n ?_
  refine SP_ret ?_
  refine bodyP_ret (H' := [blk rb 66 [pvp pb, pvp kb, pvp x], s, sx, sp, sk]) (Res1 rfl rfl) (by repeat (first | exact Part.nil _ | (apply Part.cons; (first | exact P0 | exact P1 | exact P2 | exact P3 | exact P4 | exact P5 | exact P6 | exact P7 | exact P8 | exact P9 | exact P10 | exact P11 | exact P12 | exact P13 | exact P14 | exact P15 | exact P16 | exact P17 | exact P18 | exact P19 | exact P20 | exact P21 | exact P22 | exact P23)) | (apply Part.flat; simp only [List.cons_append, List.nil_append]) | (apply Part.nilc))) ?_
  exact ⟨rfl, rfl⟩

theorem law_DoMO (x pb kb : Nat) (M : Mw) (rv : Value) (Eo : RE) (Ro : RS) (s : Seg) (hx : isR x (pvp pb) rv (pvp kb) Eo Ro s) (sp sx sk : Seg) (o : Op1) (hC : RC (⟨M.P.flat, M.src, o.b, decide (o.c = 0), o.t⟩ : RE) pb rv sp sx) (hk : isMm kb M.mem sk) (hoa : i64ok o.a) (hk10 : o.kind = 10) (aa : Option Addr) (ac : Nat) (args : List Val) (sv : Seg) (hav : Arr 110 2 aa args.length ac (args.flatMap valV) sv) (hra : ∀ y, y ∈ args → i64ok y.v) (hps : ∀ t, t ∈ (M.P.flat.sig o.a).1 → t = 105 ∨ t = 108) (ho : owed M.P.flat o.a args ≠ 0) : Spec Tryz.prog 47 [pvp x, .slice aa args.length ac, .agg (opV o).toArray] [s, sk, sp, sx, sv] (Ret fun v H => ∃ s' st', v = .agg (ansV ⟨owed M.P.flat o.a args, 0, 0, [124]⟩).toArray ∧ H = [s', sk, sp, sx, sv] ∧ isR x (pvp pb) rv (pvp kb) (⟨M.P.flat, M.src, o.b, decide (o.c = 0), o.t⟩ : RE) { RS.zero M.mem with st := st' } s') := by
  obtain ⟨ok, oa, ob, oc, os, ot⟩ := o
  dsimp only at hC hoa hk10 hps ho
  simp only [opV]
  refine Spec_enter Tryz.func47 rfl Tryz.ntmps47 rfl ?_
  show SP _ _ _ _ _ [(0, _), (1, _), (2, _)] _
  refine SP_seq ?_
  refine SP_region ?_
  refine SPL_one rfl (SP1_box rfl rfl rfl ?_)
  intro b5
  refine SPL_one rfl (SP1_alloc Tryz.zeroValue53 rfl rfl ?_)
  intro b6
  refine SPL_nil ?_
  refine thenP_n ?_
  refine SP_seq ?_
  refine SP_seq ?_
  refine SP_region ?_
  refine SPL_y (y_fa fld_43_0 rfl) rfl ?_
  refine SPL_y (y_load Tryz.isAgg3 rfl (by repeat (first | exact Cell.head rfl | apply Cell.tail))) rfl ?_
  refine SPL_nil ?_
  refine thenP_n ?_
  refine SP_block ?_
  refine SP_seq ?_
  refine SP_region ?_
  refine SPL_y (y_eqlT rfl rfl hk10) rfl ?_
  refine SPL_y (y_assign rfl) rfl ?_
  refine SPL_nil ?_
  refine thenP_n ?_
  refine SP_cond_t rfl ?_
  refine SP_seq ?_
  refine SP_region ?_
  refine SPL_y (y_move rfl) rfl ?_
  refine SPL_y (y_fa fld_43_1 rfl) rfl ?_
  refine SPL_y (y_load Tryz.isAgg3 rfl (by repeat (first | exact Cell.head rfl | apply Cell.tail))) rfl ?_
  refine SPL_y (y_move rfl) rfl ?_
  refine SPL_y (y_fa fld_43_2 rfl) rfl ?_
  refine SPL_y (y_load Tryz.isAgg3 rfl (by repeat (first | exact Cell.head rfl | apply Cell.tail))) rfl ?_
  refine SPL_y (y_fa fld_43_3 rfl) rfl ?_
  refine SPL_y (y_load Tryz.isAgg3 rfl (by repeat (first | exact Cell.head rfl | apply Cell.tail))) rfl ?_
  refine SPL_y (y_eql rfl rfl) rfl ?_
  refine SPL_y (y_fa fld_43_5 rfl) rfl ?_
  refine SPL_y (y_load Tryz.isAgg9 rfl (by repeat (first | exact Cell.head rfl | apply Cell.tail))) rfl ?_
  refine SPL_one rfl (SP1_call (rm_CallO x pb kb rv Eo (⟨M.P.flat, M.src, ob, decide (oc = 0), ot⟩ : RE) Ro s hx sp sx hC M.mem sk hk oa hoa aa ac args sv hav hra hps ho) Tryz.call74 rfl rfl (by repeat (first | exact Part.nil _ | (apply Part.cons; (first | exact P0 | exact P1 | exact P2 | exact P3 | exact P4 | exact P5 | exact P6 | exact P7 | exact P8 | exact P9 | exact P10 | exact P11 | exact P12 | exact P13 | exact P14 | exact P15 | exact P16 | exact P17 | exact P18 | exact P19 | exact P20 | exact P21 | exact P22 | exact P23)) | (apply Part.flat; simp only [List.cons_append, List.nil_append]) | (apply Part.nilc))) ?_)
  rintro v post H' ⟨s1, st', rfl, rfl, hx1⟩ hH
  try simp only [List.cons_append, List.nil_append] at hH
  subst hH
  refine SPL_y (y_move rfl) rfl ?_
  refine SPL_y (y_ext rfl rfl) rfl ?_
  refine SPL_y (y_ext rfl rfl) rfl ?_
  refine SPL_y (y_ext rfl rfl) rfl ?_
  refine SPL_y (y_assign rfl) rfl ?_
  refine SPL_y (y_assign rfl) rfl ?_
  refine SPL_y (y_assign rfl) rfl ?_
  refine SPL_nil ?_
  refine thenP_n ?_
  refine SP_seq ?_
  refine SP_region ?_
  refine SPL_y (y_move rfl) rfl ?_
  refine SPL_one rfl (SP1_call (valsW [] none 0 [] [] (Arr.nil _ _) (by simp) (by simp) (fun y hy => by simp at hy)) Tryz.call60 rfl rfl (by repeat (first | exact Part.nil _ | (apply Part.cons; (first | exact P0 | exact P1 | exact P2 | exact P3 | exact P4 | exact P5 | exact P6 | exact P7 | exact P8 | exact P9 | exact P10 | exact P11 | exact P12 | exact P13 | exact P14 | exact P15 | exact P16 | exact P17 | exact P18 | exact P19 | exact P20 | exact P21 | exact P22 | exact P23)) | (apply Part.flat; simp only [List.cons_append, List.nil_append]) | (apply Part.nilc))) ?_)
  rintro v post H' ⟨rfl, rfl⟩ hH
  try simp only [List.cons_append, List.nil_append] at hH
  subst hH
  refine SPL_y (y_assign rfl) rfl ?_
  refine SPL_nil ?_
  refine thenP_n ?_
  refine SP_seq ?_
  refine SP_region ?_
  refine SPL_y (y_move rfl) rfl ?_
  refine SPL_y (y_move rfl) rfl ?_
  refine SPL_y (y_move rfl) rfl ?_
  refine SPL_y (y_len_l Tryz.underlying35 rfl) rfl ?_
  refine SPL_y (y_move rfl) rfl ?_
  refine SPL_y (y_cat rfl rfl (by simp [valsS])) rfl ?_
  refine SPL_y (y_move rfl) rfl ?_
  refine SPL_one rfl (SP1_call (rm_Trace x (pvp pb) rv (pvp kb) _ _ s1 hx1) Tryz.call75 rfl rfl (by repeat (first | exact Part.nil _ | (apply Part.cons; (first | exact P0 | exact P1 | exact P2 | exact P3 | exact P4 | exact P5 | exact P6 | exact P7 | exact P8 | exact P9 | exact P10 | exact P11 | exact P12 | exact P13 | exact P14 | exact P15 | exact P16 | exact P17 | exact P18 | exact P19 | exact P20 | exact P21 | exact P22 | exact P23)) | (apply Part.flat; simp only [List.cons_append, List.nil_append]) | (apply Part.nilc))) ?_)
  rintro v post H' ⟨rfl, rfl⟩ hH
  try simp only [List.cons_append, List.nil_append] at hH
  subst hH
  refine SPL_y (y_cat rfl rfl (by simp [valsS, RS.zero])) rfl ?_
  refine SPL_y (y_build B53 rfl rfl (by simp only [fillL, List.foldl_cons, List.foldl_nil, List.set_cons_zero, List.set_cons_succ]; exact rfl)) rfl ?_
  refine SPL_one rfl (SP1_storeAll Tryz.sizeOf53 rfl rfl rfl rfl rfl (by first | exact U0 | exact U1 | exact U2 | exact U3 | exact U4 | exact U5 | exact U6 | exact U7 | exact U8 | exact U9 | exact U10 | exact U11 | exact U12 | exact U13 | exact U14 | exact U15 | exact U16 | exact U17 | exact U18 | exact U19 | exact U20 | exact U21 | exact U22 | exact U23) (by rfl) ?_)
  refine SPL_nil ?_
  refine thenP_n ?_
  refine SP_ret ?_
  refine inBlockP_ret (thenP_ret (bodyP_ret (H' := [s1, sk, sp, sx, sv]) (ResC rfl rfl Tryz.isAgg53 Tryz.sizeOf53 rfl (by repeat (first | exact Cells.all _ | exact Cells.head rfl | apply Cells.tail))) (by repeat (first | exact Part.nil _ | (apply Part.cons; (first | exact P0 | exact P1 | exact P2 | exact P3 | exact P4 | exact P5 | exact P6 | exact P7 | exact P8 | exact P9 | exact P10 | exact P11 | exact P12 | exact P13 | exact P14 | exact P15 | exact P16 | exact P17 | exact P18 | exact P19 | exact P20 | exact P21 | exact P22 | exact P23)) | (apply Part.flat; simp only [List.cons_append, List.nil_append]) | (apply Part.nilc))) ?_))
  exact ⟨_, st', rfl, rfl, hx1⟩

theorem vals_len2 (l : List Val) : (valsS l).length ≤ 100 := by
  unfold valsS
  have := flat_le (l := l.take 4) (f := fun x : Val => [x.t] ++ numS x.v) (k := 23) (fun x _ => by have := numS_len x.v; simp; omega)
  rw [List.length_take] at this
  have h2 : min 4 l.length * 23 ≤ 4 * 23 := Nat.mul_le_mul_right _ (by omega)
  omega

theorem law_DoMR (x pb kb : Nat) (M : Mw) (rv : Value) (Eo : RE) (Ro : RS) (s : Seg) (hx : isR x (pvp pb) rv (pvp kb) Eo Ro s) (sp sx sk : Seg) (o : Op1) (hC : RC (⟨M.P.flat, M.src, o.b, decide (o.c = 0), o.t⟩ : RE) pb rv sp sx) (hk : isMm kb M.mem sk) (hoa : i64ok o.a) (hk10 : o.kind = 10) (aa : Option Addr) (ac : Nat) (args : List Val) (sv : Seg) (hav : Arr 110 2 aa args.length ac (args.flatMap valV) sv) (hra : ∀ y, y ∈ args → i64ok y.v) (hps : ∀ t, t ∈ (M.P.flat.sig o.a).1 → t = 105 ∨ t = 108) (ho : owed M.P.flat o.a args = 0) (n : Nat) (r : Int × RS) (hinv : invP (⟨M.P.flat, M.src, o.b, decide (o.c = 0), o.t⟩ : RE) (runM (⟨M.P.flat, M.src, o.b, decide (o.c = 0), o.t⟩ : RE) n) (RS.begin args M.mem) o.a 1 = some r) (hrl : (if r.1 = 0 then r.2.st else []).length ≤ 1000000) (hrv : ∀ y, y ∈ (if r.1 = 0 then r.2.st else []) → -9223372036854775808 ≤ y.n ∧ y.n ≤ 9223372036854775807) (htr : r.2.trace.length ≤ 1000000) : Spec Tryz.prog 47 [pvp x, .slice aa args.length ac, .agg (opV o).toArray] [s, sk, sp, sx, sv] (Ret fun v H => ∃ s' sk', v = .agg (ansV ⟨r.1, r.2.used, (if r.1 = 0 then r.2.st else []).length, valsS ((if r.1 = 0 then r.2.st else []).map W.val) ++ [124] ++ r.2.trace⟩).toArray ∧ H = [s', sk', sp, sx, sv] ∧ isR x (pvp pb) rv (pvp kb) (⟨M.P.flat, M.src, o.b, decide (o.c = 0), o.t⟩ : RE) { r.2 with st := [] } s' ∧ isMm kb r.2.mem sk') := by
  obtain ⟨ok, oa, ob, oc, os, ot⟩ := o
  dsimp only at hC hoa hk10 hps ho hinv
  simp only [opV]
  have hvl := vals_len2 ((if r.1 = 0 then r.2.st else []).map W.val)
  refine Spec_enter Tryz.func47 rfl Tryz.ntmps47 rfl ?_
  show SP _ _ _ _ _ [(0, _), (1, _), (2, _)] _
  refine SP_seq ?_
  refine SP_region ?_
  refine SPL_one rfl (SP1_box rfl rfl rfl ?_)
  intro b5
  refine SPL_one rfl (SP1_alloc Tryz.zeroValue53 rfl rfl ?_)
  intro b6
  refine SPL_nil ?_
  refine thenP_n ?_
  refine SP_seq ?_
  refine SP_seq ?_
  refine SP_region ?_
  refine SPL_y (y_fa fld_43_0 rfl) rfl ?_
  refine SPL_y (y_load Tryz.isAgg3 rfl (by repeat (first | exact Cell.head rfl | apply Cell.tail))) rfl ?_
  refine SPL_nil ?_
  refine thenP_n ?_
  refine SP_block ?_
  refine SP_seq ?_
  refine SP_region ?_
  refine SPL_y (y_eqlT rfl rfl hk10) rfl ?_
  refine SPL_y (y_assign rfl) rfl ?_
  refine SPL_nil ?_
  refine thenP_n ?_
  refine SP_cond_t rfl ?_
  refine SP_seq ?_
  refine SP_region ?_
  refine SPL_y (y_move rfl) rfl ?_
  refine SPL_y (y_fa fld_43_1 rfl) rfl ?_
  refine SPL_y (y_load Tryz.isAgg3 rfl (by repeat (first | exact Cell.head rfl | apply Cell.tail))) rfl ?_
  refine SPL_y (y_move rfl) rfl ?_
  refine SPL_y (y_fa fld_43_2 rfl) rfl ?_
  refine SPL_y (y_load Tryz.isAgg3 rfl (by repeat (first | exact Cell.head rfl | apply Cell.tail))) rfl ?_
  refine SPL_y (y_fa fld_43_3 rfl) rfl ?_
  refine SPL_y (y_load Tryz.isAgg3 rfl (by repeat (first | exact Cell.head rfl | apply Cell.tail))) rfl ?_
  refine SPL_y (y_eql rfl rfl) rfl ?_
  refine SPL_y (y_fa fld_43_5 rfl) rfl ?_
  refine SPL_y (y_load Tryz.isAgg9 rfl (by repeat (first | exact Cell.head rfl | apply Cell.tail))) rfl ?_
  refine SPL_one rfl (SP1_call (rm_CallR x pb kb rv Eo (⟨M.P.flat, M.src, ob, decide (oc = 0), ot⟩ : RE) Ro s hx sp sx hC M.mem sk hk oa hoa aa ac args sv hav hra hps ho n r hinv) Tryz.call74 rfl rfl (by repeat (first | exact Part.nil _ | (apply Part.cons; (first | exact P0 | exact P1 | exact P2 | exact P3 | exact P4 | exact P5 | exact P6 | exact P7 | exact P8 | exact P9 | exact P10 | exact P11 | exact P12 | exact P13 | exact P14 | exact P15 | exact P16 | exact P17 | exact P18 | exact P19 | exact P20 | exact P21 | exact P22 | exact P23)) | (apply Part.flat; simp only [List.cons_append, List.nil_append]) | (apply Part.nilc))) ?_)
  rintro v post H' ⟨s1, sr, sk1, ra, rc, rfl, rfl, hx1, hra1, hk1⟩ hH
  try simp only [List.cons_append, List.nil_append] at hH
  subst hH
  refine SPL_y (y_move rfl) rfl ?_
  refine SPL_y (y_ext rfl rfl) rfl ?_
  refine SPL_y (y_ext rfl rfl) rfl ?_
  refine SPL_y (y_ext rfl rfl) rfl ?_
  refine SPL_y (y_assign rfl) rfl ?_
  refine SPL_y (y_assign rfl) rfl ?_
  refine SPL_y (y_assign rfl) rfl ?_
  refine SPL_nil ?_
  refine thenP_n ?_
  refine SP_seq ?_
  refine SP_region ?_
  refine SPL_y (y_move rfl) rfl ?_
  refine SPL_one rfl (SP1_call (valsW [] ra rc (if r.1 = 0 then r.2.st else []) sr hra1 (by simp) hrl hrv) Tryz.call60 rfl rfl (by repeat (first | exact Part.nil _ | (apply Part.cons; (first | exact P0 | exact P1 | exact P2 | exact P3 | exact P4 | exact P5 | exact P6 | exact P7 | exact P8 | exact P9 | exact P10 | exact P11 | exact P12 | exact P13 | exact P14 | exact P15 | exact P16 | exact P17 | exact P18 | exact P19 | exact P20 | exact P21 | exact P22 | exact P23)) | (apply Part.flat; simp only [List.cons_append, List.nil_append]) | (apply Part.nilc))) ?_)
  rintro v post H' ⟨rfl, rfl⟩ hH
  try simp only [List.cons_append, List.nil_append] at hH
  subst hH
  refine SPL_y (y_assign rfl) rfl ?_
  refine SPL_nil ?_
  refine thenP_n ?_
  refine SP_seq ?_
  refine SP_region ?_
  refine SPL_y (y_move rfl) rfl ?_
  refine SPL_y (y_move rfl) rfl ?_
  refine SPL_y (y_move rfl) rfl ?_
  refine SPL_y (y_len_l Tryz.underlying35 rfl) rfl ?_
  refine SPL_y (y_move rfl) rfl ?_
  refine SPL_y (y_cat rfl rfl (by simp only [List.nil_append, List.length_cons, List.length_nil]; omega)) rfl ?_
  refine SPL_y (y_move rfl) rfl ?_
  refine SPL_one rfl (SP1_call (rm_Trace x (pvp pb) rv (pvp kb) _ _ s1 hx1) Tryz.call75 rfl rfl (by repeat (first | exact Part.nil _ | (apply Part.cons; (first | exact P0 | exact P1 | exact P2 | exact P3 | exact P4 | exact P5 | exact P6 | exact P7 | exact P8 | exact P9 | exact P10 | exact P11 | exact P12 | exact P13 | exact P14 | exact P15 | exact P16 | exact P17 | exact P18 | exact P19 | exact P20 | exact P21 | exact P22 | exact P23)) | (apply Part.flat; simp only [List.cons_append, List.nil_append]) | (apply Part.nilc))) ?_)
  rintro v post H' ⟨rfl, rfl⟩ hH
  try simp only [List.cons_append, List.nil_append] at hH
  subst hH
  refine SPL_y (y_cat rfl rfl (by simp only [List.nil_append, List.length_append, List.length_cons, List.length_nil]; omega)) rfl ?_
  refine SPL_y (y_build B53 rfl rfl (by simp only [fillL, List.foldl_cons, List.foldl_nil, List.set_cons_zero, List.set_cons_succ]; exact rfl)) rfl ?_
  refine SPL_one rfl (SP1_storeAll Tryz.sizeOf53 rfl rfl rfl rfl rfl (by first | exact U0 | exact U1 | exact U2 | exact U3 | exact U4 | exact U5 | exact U6 | exact U7 | exact U8 | exact U9 | exact U10 | exact U11 | exact U12 | exact U13 | exact U14 | exact U15 | exact U16 | exact U17 | exact U18 | exact U19 | exact U20 | exact U21 | exact U22 | exact U23) (by rfl) ?_)
  refine SPL_nil ?_
  refine thenP_n ?_
  refine SP_ret ?_
  refine inBlockP_ret (thenP_ret (bodyP_ret (H' := [s1, sk1, sp, sx, sv]) (ResC rfl rfl Tryz.isAgg53 Tryz.sizeOf53 rfl (by repeat (first | exact Cells.all _ | exact Cells.head rfl | apply Cells.tail))) (by repeat (first | exact Part.nil _ | (apply Part.cons; (first | exact P0 | exact P1 | exact P2 | exact P3 | exact P4 | exact P5 | exact P6 | exact P7 | exact P8 | exact P9 | exact P10 | exact P11 | exact P12 | exact P13 | exact P14 | exact P15 | exact P16 | exact P17 | exact P18 | exact P19 | exact P20 | exact P21 | exact P22 | exact P23)) | (apply Part.flat; simp only [List.cons_append, List.nil_append]) | (apply Part.nilc))) ?_))
  exact ⟨_, _, rfl, rfl, hx1, hk1⟩

end Go.Sl
