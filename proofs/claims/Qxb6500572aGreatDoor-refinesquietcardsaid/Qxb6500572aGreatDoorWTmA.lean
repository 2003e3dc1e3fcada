/- Walks: towerlaw, the model side (made by program out of short notes) -/
import Derived.Test.Qxb6500572aGreatDoorWRmL
import Derived.Test.Qxb6500572aGreatDoorWLawC
namespace Go.Sl
open Go Go.Wl Go.Proofs
set_option maxRecDepth 100000
set_option linter.unusedVariables false
set_option linter.unusedSimpArgs false
/-- The model's side. -/
structure Mw where
  P : Pm
  mem : Mem
  src : List (List Ins)
  n : Int
def isMow (rb : Nat) (M : Mw) (H : Hp) : Prop := ∃ pb kb x fa rv s sx sp sk E R, H = [blk rb 66 [pvp pb, pvp kb, pvp x], s, sx, sp, sk] ∧ isPm pb fa M.P 0 sp ∧ isMm kb M.mem sk ∧ isR x (pvp pb) rv (pvp kb) E R s ∧ R.n = M.n ∧ isSrc rv M.src sx
theorem loadMM_mem (m : Mod) : (loadMM m).1.min = m.min ∧ (loadMM m).1.max = m.max := by
  unfold loadMM
  dsimp only
  split <;> exact ⟨rfl, rfl⟩
def linkM (m : Mod) : Mw := ⟨(loadMM m).1, mem0 m, m.funcs.map (·.code), 0⟩

theorem pm_NewE (b : Nat) (m : Mod) (s : Seg) (hm : isMod b m s) (ok : ModOk m) (hrun : ∀ (fs : List Fm) (f : Nat) (u : Fm), SameM m fs → fs[f]? = some u → m.imports.length ≤ f → f < (m.imports.length + m.funcs.length) → u.code = [] → (readsM m (m.imports.length + m.funcs.length) [] 0).2 = none → fs.length = (m.imports.length + m.funcs.length) → RunOk fs u u.src (Km.start u) [] 0) (he : (loadMM m).2.2.2 ≠ 0) : Spec Tryz.prog 43 [.pointer (some ⟨b, 0, none⟩)] [s] (Ret fun v H => v = .tuple #[.pointer none, I (loadMM m).2.2.2, I (loadMM m).2.1, I (loadMM m).2.2.1] ∧ H = [s]) := by
  refine (pm_New b m s hm ok hrun).mono ?_
  intro e H h
  cases e with
  | returned v =>
    rcases h with ⟨h0, _⟩ | ⟨_, h1⟩
    · exact absurd h0 he
    · exact h1
  | _ => exact h
theorem pm_NewO (b : Nat) (m : Mod) (s : Seg) (hm : isMod b m s) (ok : ModOk m) (hrun : ∀ (fs : List Fm) (f : Nat) (u : Fm), SameM m fs → fs[f]? = some u → m.imports.length ≤ f → f < (m.imports.length + m.funcs.length) → u.code = [] → (readsM m (m.imports.length + m.funcs.length) [] 0).2 = none → fs.length = (m.imports.length + m.funcs.length) → RunOk fs u u.src (Km.start u) [] 0) (he : (loadMM m).2.2.2 = 0) : Spec Tryz.prog 43 [.pointer (some ⟨b, 0, none⟩)] [s] (Ret fun v H => ∃ pb fa sp, v = .tuple #[.pointer (some ⟨pb, 0, none⟩), I 0, I 0, I 0] ∧ H = [sp, s] ∧ isPm pb fa (loadMM m).1 0 sp) := by
  refine (pm_New b m s hm ok hrun).mono ?_
  intro e H h
  cases e with
  | returned v =>
    rcases h with ⟨_, h1⟩ | ⟨h0, _⟩
    · exact h1
    · exact absurd he h0
  | _ => exact h

theorem tm_LinkE (rb b : Nat) (v1 v2 v3 : Value) (m : Mod) (sm : Seg) (hm : isMod b m sm) (ok : ModOk m) (hrun : ∀ (fs : List Fm) (f : Nat) (u : Fm), SameM m fs → fs[f]? = some u → m.imports.length ≤ f → f < (m.imports.length + m.funcs.length) → u.code = [] → (readsM m (m.imports.length + m.funcs.length) [] 0).2 = none → fs.length = (m.imports.length + m.funcs.length) → RunOk fs u u.src (Km.start u) [] 0) (he : (loadMM m).2.2.2 ≠ 0) : Spec Tryz.prog 24 [pvp rb, pvp b] [blk rb 66 [v1, v2, v3], sm] (Ret fun v H => v = .agg (ansV ⟨(loadMM m).2.2.2, (loadMM m).2.1, (loadMM m).2.2.1, []⟩).toArray ∧ H = [blk rb 66 [v1, v2, v3], sm]) := by
  refine Spec_enter Tryz.func24 rfl Tryz.ntmps24 rfl ?_
  show SP _ _ _ _ _ [(0, _), (1, _)] _
  refine SP_seq ?_
  refine SP_region ?_
  refine SPL_one rfl (SP1_alloc Tryz.zeroValue53 rfl rfl ?_)
  intro b4
  refine SPL_nil ?_
  refine thenP_n ?_
  refine SP_seq ?_
  refine SP_region ?_
  refine SPL_y (y_move rfl) rfl ?_
  refine SPL_one rfl (SP1_call (pm_NewE b m sm hm ok hrun he) Tryz.call43 rfl rfl (by repeat (first | exact Part.nil _ | (apply Part.cons; (first | exact P0 | exact P1 | exact P2 | exact P3 | exact P4 | exact P5 | exact P6 | exact P7 | exact P8 | exact P9 | exact P10 | exact P11 | exact P12 | exact P13 | exact P14 | exact P15 | exact P16 | exact P17 | exact P18 | exact P19 | exact P20 | exact P21 | exact P22 | exact P23)) | (apply Part.flat; simp only [List.cons_append, List.nil_append]) | (apply Part.nilc))) ?_)
  rintro v post H' ⟨rfl, rfl⟩ hH
  try simp only [List.cons_append, List.nil_append] at hH
  subst hH
  refine SPL_y (y_move rfl) rfl ?_
  refine SPL_y (y_ext rfl rfl) rfl ?_
  refine SPL_y (y_ext rfl rfl) rfl ?_
  refine SPL_y (y_ext rfl rfl) rfl ?_
  refine SPL_y (y_ext rfl rfl) rfl ?_
  refine SPL_y (y_assign rfl) rfl ?_
  refine SPL_y (y_assign rfl) rfl ?_
  refine SPL_y (y_assign rfl) rfl ?_
  refine SPL_y (y_assign rfl) rfl ?_
  refine SPL_nil ?_
  refine thenP_n ?_
  refine SP_seq ?_
  refine SP_seq ?_
  refine SP_region ?_
  refine SPL_y (y_move rfl) rfl ?_
  refine SPL_y (y_neqYes rfl rfl he) rfl ?_
  refine SPL_nil ?_
  refine thenP_n ?_
  refine SP_cond_t rfl ?_
  refine SP_seq ?_
  refine SP_region ?_
  refine SPL_y (y_move rfl) rfl ?_
  refine SPL_y (y_move rfl) rfl ?_
  refine SPL_y (y_move rfl) rfl ?_
  refine SPL_y (y_build B53 rfl rfl (by simp only [fillL, List.foldl_cons, List.foldl_nil, List.set_cons_zero, List.set_cons_succ]; exact rfl)) rfl ?_
  refine SPL_one rfl (SP1_storeAll Tryz.sizeOf53 rfl rfl rfl rfl rfl (by first | exact U0 | exact U1 | exact U2 | exact U3 | exact U4 | exact U5 | exact U6 | exact U7 | exact U8 | exact U9 | exact U10 | exact U11 | exact U12 | exact U13 | exact U14 | exact U15 | exact U16 | exact U17 | exact U18 | exact U19 | exact U20 | exact U21 | exact U22 | exact U23) (by rfl) ?_)
  refine SPL_nil ?_
  refine thenP_n ?_
  refine SP_ret ?_
  refine thenP_ret (bodyP_ret (H' := [blk rb 66 [v1, v2, v3], sm]) (ResC rfl rfl Tryz.isAgg53 Tryz.sizeOf53 rfl (by repeat (first | exact Cells.all _ | exact Cells.head rfl | apply Cells.tail))) (by repeat (first | exact Part.nil _ | (apply Part.cons; (first | exact P0 | exact P1 | exact P2 | exact P3 | exact P4 | exact P5 | exact P6 | exact P7 | exact P8 | exact P9 | exact P10 | exact P11 | exact P12 | exact P13 | exact P14 | exact P15 | exact P16 | exact P17 | exact P18 | exact P19 | exact P20 | exact P21 | exact P22 | exact P23)) | (apply Part.flat; simp only [List.cons_append, List.nil_append]) | (apply Part.nilc))) ?_)
  exact ⟨rfl, rfl⟩

theorem tm_LinkO (rb b : Nat) (v1 v2 v3 : Value) (m : Mod) (sm : Seg) (hm : isMod b m sm) (ok : ModOk m) (hrun : ∀ (fs : List Fm) (f : Nat) (u : Fm), SameM m fs → fs[f]? = some u → m.imports.length ≤ f → f < (m.imports.length + m.funcs.length) → u.code = [] → (readsM m (m.imports.length + m.funcs.length) [] 0).2 = none → fs.length = (m.imports.length + m.funcs.length) → RunOk fs u u.src (Km.start u) [] 0) (he : (loadMM m).2.2.2 = 0) : Spec Tryz.prog 24 [pvp rb, pvp b] [blk rb 66 [v1, v2, v3], sm] (Ret fun v H => ∃ HM, v = .agg (ansV ⟨0, 0, 0, []⟩).toArray ∧ H = HM ++ [sm] ∧ isMow rb (linkM m) HM) := by
  obtain ⟨lo, hlo⟩ : ∃ lo : Nat, m.min = lo := ⟨m.min.toNat, by have := ok.mem; omega⟩
  obtain ⟨hi, hhi⟩ : ∃ hi : Nat, m.max = hi := ⟨m.max.toNat, by have := ok.mem; omega⟩
  have hmm := ok.mem
  obtain ⟨hl1, hl2⟩ := loadMM_mem m
  refine Spec_enter Tryz.func24 rfl Tryz.ntmps24 rfl ?_
  show SP _ _ _ _ _ [(0, _), (1, _)] _
  refine SP_seq ?_
  refine SP_region ?_
  refine SPL_one rfl (SP1_alloc Tryz.zeroValue53 rfl rfl ?_)
  intro b4
  refine SPL_nil ?_
  refine thenP_n ?_
  refine SP_seq ?_
  refine SP_region ?_
  refine SPL_y (y_move rfl) rfl ?_
  refine SPL_one rfl (SP1_call (pm_NewO b m sm hm ok hrun he) Tryz.call43 rfl rfl (by repeat (first | exact Part.nil _ | (apply Part.cons; (first | exact P0 | exact P1 | exact P2 | exact P3 | exact P4 | exact P5 | exact P6 | exact P7 | exact P8 | exact P9 | exact P10 | exact P11 | exact P12 | exact P13 | exact P14 | exact P15 | exact P16 | exact P17 | exact P18 | exact P19 | exact P20 | exact P21 | exact P22 | exact P23)) | (apply Part.flat; simp only [List.cons_append, List.nil_append]) | (apply Part.nilc))) ?_)
  rintro v post H' ⟨pb, fa, sp, rfl, rfl, hp⟩ hH
  try simp only [List.cons_append, List.nil_append] at hH
  subst hH
  refine SPL_y (y_move rfl) rfl ?_
  refine SPL_y (y_ext rfl rfl) rfl ?_
  refine SPL_y (y_ext rfl rfl) rfl ?_
  refine SPL_y (y_ext rfl rfl) rfl ?_
  refine SPL_y (y_ext rfl rfl) rfl ?_
  refine SPL_y (y_assign rfl) rfl ?_
  refine SPL_y (y_assign rfl) rfl ?_
  refine SPL_y (y_assign rfl) rfl ?_
  refine SPL_y (y_assign rfl) rfl ?_
  refine SPL_nil ?_
  refine thenP_n ?_
  refine SP_seq ?_
  refine SP_seq ?_
  refine SP_region ?_
  refine SPL_y (y_move rfl) rfl ?_
  refine SPL_y (y_neqNo rfl rfl (by decide)) rfl ?_
  refine SPL_nil ?_
  refine thenP_n ?_
  refine SP_cond_f rfl ?_
  refine SP_skip ?_
  refine thenP_n ?_
  refine SP_seq ?_
  refine SP_region ?_
  refine SPL_y (y_move rfl) rfl ?_
  refine SPL_y (y_move rfl) rfl ?_
  refine SPL_y (y_nil rfl) rfl ?_
  refine SPL_y (y_fa fld_66_0 rfl) rfl ?_
  refine SPL_one rfl (SP1_store Tryz.sizeOf62 rfl rfl rfl (by first | exact U0 | exact U1 | exact U2 | exact U3 | exact U4 | exact U5 | exact U6 | exact U7 | exact U8 | exact U9 | exact U10 | exact U11 | exact U12 | exact U13 | exact U14 | exact U15 | exact U16 | exact U17 | exact U18 | exact U19 | exact U20 | exact U21 | exact U22 | exact U23) (by rfl) ?_)
  refine SPL_nil ?_
  refine thenP_n ?_
  refine SP_seq ?_
  refine SP_region ?_
  refine SPL_y (y_move rfl) rfl ?_
  refine SPL_one rfl (SP1_call (pm_Mem pb fa (loadMM m).1 0 sp hp) Tryz.call44 rfl rfl (by repeat (first | exact Part.nil _ | (apply Part.cons; (first | exact P0 | exact P1 | exact P2 | exact P3 | exact P4 | exact P5 | exact P6 | exact P7 | exact P8 | exact P9 | exact P10 | exact P11 | exact P12 | exact P13 | exact P14 | exact P15 | exact P16 | exact P17 | exact P18 | exact P19 | exact P20 | exact P21 | exact P22 | exact P23)) | (apply Part.flat; simp only [List.cons_append, List.nil_append]) | (apply Part.nilc))) ?_)
  rintro v post H' ⟨rfl, rfl⟩ hH
  try simp only [List.cons_append, List.nil_append] at hH
  subst hH
  rw [hl1, hl2, hlo, hhi]
  refine SPL_y (y_move rfl) rfl ?_
  refine SPL_y (y_ext rfl rfl) rfl ?_
  refine SPL_y (y_ext rfl rfl) rfl ?_
  refine SPL_y (y_assign rfl) rfl ?_
  refine SPL_y (y_assign rfl) rfl ?_
  refine SPL_nil ?_
  refine thenP_n ?_
  refine SP_seq ?_
  refine SP_region ?_
  refine SPL_y (y_move rfl) rfl ?_
  refine SPL_y (y_move rfl) rfl ?_
  refine SPL_y (y_move rfl) rfl ?_
  refine SPL_one rfl (SP1_call (mm_New lo hi (by omega) (by omega)) Tryz.call45 rfl rfl (by repeat (first | exact Part.nil _ | (apply Part.cons; (first | exact P0 | exact P1 | exact P2 | exact P3 | exact P4 | exact P5 | exact P6 | exact P7 | exact P8 | exact P9 | exact P10 | exact P11 | exact P12 | exact P13 | exact P14 | exact P15 | exact P16 | exact P17 | exact P18 | exact P19 | exact P20 | exact P21 | exact P22 | exact P23)) | (apply Part.flat; simp only [List.cons_append, List.nil_append]) | (apply Part.nilc))) ?_)
  rintro v post H' ⟨kb, sk, rfl, rfl, hk⟩ hH
  try simp only [List.cons_append, List.nil_append] at hH
  subst hH
  refine SPL_y (y_move rfl) rfl ?_
  refine SPL_y (y_ext rfl rfl) rfl ?_
  refine SPL_y (y_ext rfl rfl) rfl ?_
  refine SPL_y (y_nil rfl) rfl ?_
  refine SPL_y (y_fa fld_66_1 rfl) rfl ?_
  refine SPL_one rfl (SP1_store Tryz.sizeOf63 rfl rfl rfl (by first | exact U0 | exact U1 | exact U2 | exact U3 | exact U4 | exact U5 | exact U6 | exact U7 | exact U8 | exact U9 | exact U10 | exact U11 | exact U12 | exact U13 | exact U14 | exact U15 | exact U16 | exact U17 | exact U18 | exact U19 | exact U20 | exact U21 | exact U22 | exact U23) (by rfl) ?_)
  refine SPL_nil ?_
  refine thenP_n ?_
  refine SP_seq ?_
  refine SP_draw 10 [(0, 0), (1, 0), (2, 0), (3, 0), (4, 0), (6, 0), (7, 0), (8, 0), (5, 1), (9, 1), (10, 3), (11, 0), (12, 0), (13, 3)] mixed (by kernel_rfl) (fun _ _ _ _ _ h => h) (Part.refl _) ?_
  refine SPO_p rfl (y_move rfl) rfl ?_
  refine SPO_p rfl (y_move rfl) rfl ?_
  refine SPO_p rfl (y_move rfl) rfl ?_
  refine SPO_p rfl (y_nil rfl) rfl ?_
  refine SPO_p rfl (y_fa fld_66_0 rfl) rfl ?_
  refine SPO_p rfl (y_move rfl) rfl ?_
  refine SPO_p rfl (y_nil rfl) rfl ?_
  refine SPO_p rfl (y_fa fld_66_1 rfl) rfl ?_
  refine SPO_h rfl (y_load Tryz.isAgg62 rfl (by repeat (first | exact Cell.head rfl | apply Cell.tail))) rfl ?_
  refine SPO_h rfl (y_load Tryz.isAgg63 rfl (by repeat (first | exact Cell.head rfl | apply Cell.tail))) rfl ?_
  refine SPO_z (k := 0) rfl rfl (SP1_call (rm_New b m sm hm (by have := ok.nf; omega) (fun fn hfn => by have := (ok.fn fn hfn).2.2.2.2.1; omega) pb kb ⟨⟨0, 0, 0, []⟩, [], 0, false, []⟩ ⟨rfl, rfl, rfl⟩ ⟨[], 0, 0, 0, [], ⟨[], 0⟩⟩ ⟨rfl, rfl, rfl, rfl, rfl⟩) Tryz.call46 rfl rfl (by repeat (first | exact Part.nil _ | (apply Part.cons; (first | exact P0 | exact P1 | exact P2 | exact P3 | exact P4 | exact P5 | exact P6 | exact P7 | exact P8 | exact P9 | exact P10 | exact P11 | exact P12 | exact P13 | exact P14 | exact P15 | exact P16 | exact P17 | exact P18 | exact P19 | exact P20 | exact P21 | exact P22 | exact P23)) | (apply Part.flat; simp only [List.cons_append, List.nil_append]) | (apply Part.nilc))) ?_)
  rintro v post H' ⟨x, rv, s, sx, rfl, rfl, hx, hsx⟩ hH
  try simp only [List.cons_append, List.nil_append] at hH
  subst hH
  refine SPO_p rfl (y_nil rfl) rfl ?_
  refine SPO_p rfl (y_fa fld_66_2 rfl) rfl ?_
  refine SPO_z (k := 0) rfl rfl (SP1_store Tryz.sizeOf64 rfl rfl rfl (by first | exact U0 | exact U1 | exact U2 | exact U3 | exact U4 | exact U5 | exact U6 | exact U7 | exact U8 | exact U9 | exact U10 | exact U11 | exact U12 | exact U13 | exact U14 | exact U15 | exact U16 | exact U17 | exact U18 | exact U19 | exact U20 | exact U21 | exact U22 | exact U23) (by rfl) ?_)
  refine SPO_nil ?_
  refine thenP_n ?_
  refine SP_seq ?_
  refine SP_region ?_
  refine SPL_y (y_build B53 rfl rfl (by simp only [fillL, List.foldl_cons, List.foldl_nil, List.set_cons_zero, List.set_cons_succ]; exact rfl)) rfl ?_
  refine SPL_one rfl (SP1_storeAll Tryz.sizeOf53 rfl rfl rfl rfl rfl (by first | exact U0 | exact U1 | exact U2 | exact U3 | exact U4 | exact U5 | exact U6 | exact U7 | exact U8 | exact U9 | exact U10 | exact U11 | exact U12 | exact U13 | exact U14 | exact U15 | exact U16 | exact U17 | exact U18 | exact U19 | exact U20 | exact U21 | exact U22 | exact U23) (by rfl) ?_)
  refine SPL_nil ?_
  refine thenP_n ?_
  refine SP_ret ?_
  refine bodyP_ret (H' := [blk rb 66 [pvp pb, pvp kb, pvp x], s, sx, sp, sk, sm]) (ResC rfl rfl Tryz.isAgg53 Tryz.sizeOf53 rfl (by repeat (first | exact Cells.all _ | exact Cells.head rfl | apply Cells.tail))) (by repeat (first | exact Part.nil _ | (apply Part.cons; (first | exact P0 | exact P1 | exact P2 | exact P3 | exact P4 | exact P5 | exact P6 | exact P7 | exact P8 | exact P9 | exact P10 | exact P11 | exact P12 | exact P13 | exact P14 | exact P15 | exact P16 | exact P17 | exact P18 | exact P19 | exact P20 | exact P21 | exact P22 | exact P23)) | (apply Part.flat; simp only [List.cons_append, List.nil_append]) | (apply Part.nilc))) ?_
  refine ⟨[blk rb 66 [pvp pb, pvp kb, pvp x], s, sx, sp, sk], rfl, rfl, pb, kb, x, fa, rv, s, sx, sp, sk, _, _, rfl, hp, ?_, hx, rfl, hsx⟩
  show isMm kb (mem0 m) sk
  unfold mem0
  rw [hlo, hhi, Int.toNat_natCast]
  exact hk

end Go.Sl
