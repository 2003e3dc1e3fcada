/- Walks: package prep, New (made by program out of short notes) -/
import Derived.Test.Qxb6500572aGreatDoorWPrepL
namespace Go.Sl
open Go Go.Wl Go.Proofs
set_option maxRecDepth 100000
set_option linter.unusedVariables false
set_option linter.unusedSimpArgs false
theorem prep_New (b : Nat) (m : Mod) (s : Seg) (hm : isMod b m s) (ok : ModOk m) : Spec Tryz.prog 30 [.pointer (some ⟨b, 0, none⟩)] [s] (Ret fun v H => ((loadM m).2.2.2 = 0 → ∃ pb fa sp, v = .tuple #[.pointer (some ⟨pb, 0, none⟩), .nilIface] ∧ H = [sp, s] ∧ isProg pb fa (loadM m).1 0 sp) ∧ ((loadM m).2.2.2 ≠ 0 → ∃ eb, v = .tuple #[.pointer none, .iface 123 (.pointer (some ⟨eb, 0, none⟩))] ∧ H = [blk eb 125 [I (loadM m).2.1, I (loadM m).2.2.1, .iface 51 (I (loadM m).2.2.2)], s])) := by
  refine Spec_enter Tryz.func30 rfl Tryz.ntmps30 rfl ?_
  show SP _ _ _ _ _ [(0, _)] _
  refine SP_seq ?_
  refine SP_region ?_
  refine SPL_y (y_assign rfl) rfl ?_
  refine SPL_y (y_assign rfl) rfl ?_
  refine SPL_nil ?_
  refine thenP_n ?_
  refine SP_seq ?_
  refine SP_region ?_
  refine SPL_y (y_build B96 rfl rfl (by simp only [fillL, List.foldl_cons, List.foldl_nil, List.set_cons_zero, List.set_cons_succ]; exact rfl)) rfl ?_
  refine SPL_one rfl (SP1_box rfl rfl rfl ?_)
  intro b9
  refine SPL_y (y_assign rfl) rfl ?_
  refine SPL_nil ?_
  refine thenP_n ?_
  refine SP_seq ?_
  refine SP_region ?_
  refine SPL_y (y_move rfl) rfl ?_
  refine SPL_y (y_move rfl) rfl ?_
  refine SPL_one rfl (SP1_call (prep_load b9 b m s hm ok) Tryz.call54 rfl rfl (by repeat (first | exact Part.nil _ | (apply Part.cons; (first | exact P0 | exact P1 | exact P2 | exact P3 | exact P4 | exact P5 | exact P6 | exact P7 | exact P8 | exact P9 | exact P10 | exact P11 | exact P12 | exact P13 | exact P14 | exact P15 | exact P16 | exact P17 | exact P18 | exact P19 | exact P20 | exact P21 | exact P22 | exact P23)) | (apply Part.flat; simp only [List.cons_append, List.nil_append]) | (apply Part.nilc))) ?_)
  rintro v post H' ⟨fa, sp, rfl, rfl, hp⟩ hH
  try simp only [List.cons_append, List.nil_append] at hH
  subst hH
  refine SPL_y (y_move rfl) rfl ?_
  refine SPL_y (y_ext rfl rfl) rfl ?_
  refine SPL_y (y_ext rfl rfl) rfl ?_
  refine SPL_y (y_ext rfl rfl) rfl ?_
  refine SPL_y (y_assign rfl) rfl ?_
  refine SPL_y (y_assign rfl) rfl ?_
  refine SPL_y (y_assign rfl) rfl ?_
  refine SPL_nil ?_
  refine thenP_n ?_
  refine SP_seq ?_
  refine SP_seq ?_
  refine SP_region ?_
  refine SPL_y (y_move rfl) rfl ?_
  refine SPL_ifn (y_neq rfl rfl) rfl ?_ ?_
  · intro h3_1
    refine SPL_nil ?_
    refine thenP_n ?_
    refine SP_cond_f rfl ?_
    refine SP_skip ?_
    refine thenP_n ?_
    refine SP_seq ?_
    refine SP_region ?_
    refine SPL_y (y_move rfl) rfl ?_
    refine SPL_y (y_assign rfl) rfl ?_
    refine SPL_y (y_assign rfl) rfl ?_
    refine SPL_nil ?_
    refine thenP_n ?_
    refine SP_ret ?_
    refine bodyP_ret (H' := [sp, s]) (Res2 rfl rfl rfl) (by repeat (first | exact Part.nil _ | (apply Part.cons; (first | exact P0 | exact P1 | exact P2 | exact P3 | exact P4 | exact P5 | exact P6 | exact P7 | exact P8 | exact P9 | exact P10 | exact P11 | exact P12 | exact P13 | exact P14 | exact P15 | exact P16 | exact P17 | exact P18 | exact P19 | exact P20 | exact P21 | exact P22 | exact P23)) | (apply Part.flat; simp only [List.cons_append, List.nil_append]) | (apply Part.nilc))) ?_
    exact ⟨fun _ => ⟨_, _, _, rfl, rfl, hp⟩, fun h => absurd (by omega) h⟩
  intro h3_1
  refine SPL_nil ?_
  refine thenP_n ?_
  refine SP_cond_t rfl ?_
  refine SP_seq ?_
  refine SP_region ?_
  refine SPL_y (y_move rfl) rfl ?_
  refine SPL_y (y_move rfl) rfl ?_
  refine SPL_y (y_move rfl) rfl ?_
  refine SPL_y (y_mki Tryz.underlying51 rfl rfl) rfl ?_
  refine SPL_y (y_build B125 rfl rfl (by simp only [fillL, List.foldl_cons, List.foldl_nil, List.set_cons_zero, List.set_cons_succ]; exact rfl)) rfl ?_
  refine SPL_one rfl (SP1_box rfl rfl rfl ?_)
  intro b24
  refine SPL_y (y_mki Tryz.underlying123 rfl rfl) rfl ?_
  refine SPL_y (y_assign rfl) rfl ?_
  refine SPL_y (y_assign rfl) rfl ?_
  refine SPL_nil ?_
  refine thenP_n ?_
  refine SP_ret ?_
  refine thenP_ret (bodyP_ret (H' := [blk b24 125 [I (loadM m).2.1, I (loadM m).2.2.1, .iface 51 (I (loadM m).2.2.2)], s]) (Res2 rfl rfl rfl) (by repeat (first | exact Part.nil _ | (apply Part.cons; (first | exact P0 | exact P1 | exact P2 | exact P3 | exact P4 | exact P5 | exact P6 | exact P7 | exact P8 | exact P9 | exact P10 | exact P11 | exact P12 | exact P13 | exact P14 | exact P15 | exact P16 | exact P17 | exact P18 | exact P19 | exact P20 | exact P21 | exact P22 | exact P23)) | (apply Part.flat; simp only [List.cons_append, List.nil_append]) | (apply Part.nilc))) ?_)
  exact ⟨fun h => absurd h h3_1, fun _ => ⟨_, rfl, rfl⟩⟩

end Go.Sl
