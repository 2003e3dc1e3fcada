/- Walks: package run, the deferred function of Call (made by program out of short notes) -/
import Derived.Test.Qxb6500572aGreatDoorWLoopB
import Derived.Test.Qxb6500572aGreatDoorSlT
namespace Go.Sl
open Go Go.Wl Go.Proofs
set_option maxRecDepth 100000
set_option linter.unusedVariables false
set_option linter.unusedSimpArgs false
theorem call_defer_ret (x b5 b10 b11 b12 : Nat) (pv kv sv fv rv uv ev : Value) (used high e : Int) : SpecD Tryz.prog 85 [.pointer (some ⟨b5, 0, none⟩), .pointer (some ⟨b10, 0, none⟩), .pointer (some ⟨b11, 0, none⟩), .pointer (some ⟨b12, 0, none⟩)] .returning [blk b5 47 [.pointer (some ⟨x, 0, none⟩)], blk b10 35 [rv], blk b11 3 [uv], blk b12 39 [ev], blk x 93 [pv, kv, sv, fv, I used, I high]] (fun z u' H => ∃ v0, z = .returned v0 ∧ settle u' = .returning ∧ H = [blk b5 47 [.pointer (some ⟨x, 0, none⟩)], blk b10 35 [rv], blk b11 3 [uv], blk b12 39 [ev], blk x 93 [pv, kv, .slice none 0 0, .slice none 0 0, I 0, I high]]) := by
  refine SpecD_enter Tryz.func85 rfl Tryz.ntmps85 rfl (fun c₀ cs hu => ?_)
  show SPS _ _ _ _ _ [(0, _), (1, _), (2, _), (3, _)] _ _
  refine SPS_seq ?_
  refine SPS_of ?_
  refine SP_region ?_
  refine SPL_y (y_load Tryz.isAgg47 rfl (by repeat (first | exact Cell.head rfl | apply Cell.tail))) rfl ?_
  refine SPL_y (y_nil rfl) rfl ?_
  refine SPL_y (y_fa fld_93_4 rfl) rfl ?_
  refine SPL_y (y_load Tryz.isAgg3 rfl (by repeat (first | exact Cell.head rfl | apply Cell.tail))) rfl ?_
  refine SPL_y (y_assign rfl) rfl ?_
  refine SPL_nil ?_
  refine thenPS_n ?_
  refine SPS_seq ?_
  refine SPS_of ?_
  refine SP_region ?_
  refine SPL_y (y_load Tryz.isAgg47 rfl (by repeat (first | exact Cell.head rfl | apply Cell.tail))) rfl ?_
  refine SPL_y (y_load Tryz.isAgg47 rfl (by repeat (first | exact Cell.head rfl | apply Cell.tail))) rfl ?_
  refine SPL_y (y_load Tryz.isAgg47 rfl (by repeat (first | exact Cell.head rfl | apply Cell.tail))) rfl ?_
  refine SPL_y (y_nil rfl) rfl ?_
  refine SPL_y (y_fa fld_93_2 rfl) rfl ?_
  refine SPL_one rfl (SP1_store Tryz.sizeOf90 rfl rfl rfl (by first | exact U0 | exact U1 | exact U2 | exact U3 | exact U4 | exact U5 | exact U6 | exact U7 | exact U8 | exact U9 | exact U10 | exact U11 | exact U12 | exact U13 | exact U14 | exact U15 | exact U16 | exact U17 | exact U18 | exact U19 | exact U20 | exact U21 | exact U22 | exact U23) (by rfl) ?_)
  refine SPL_y (y_nil rfl) rfl ?_
  refine SPL_y (y_fa fld_93_3 rfl) rfl ?_
  refine SPL_one rfl (SP1_store Tryz.sizeOf91 rfl rfl rfl (by first | exact U0 | exact U1 | exact U2 | exact U3 | exact U4 | exact U5 | exact U6 | exact U7 | exact U8 | exact U9 | exact U10 | exact U11 | exact U12 | exact U13 | exact U14 | exact U15 | exact U16 | exact U17 | exact U18 | exact U19 | exact U20 | exact U21 | exact U22 | exact U23) (by rfl) ?_)
  refine SPL_y (y_nil rfl) rfl ?_
  refine SPL_y (y_fa fld_93_4 rfl) rfl ?_
  refine SPL_one rfl (SP1_store Tryz.sizeOf3 rfl rfl rfl (by first | exact U0 | exact U1 | exact U2 | exact U3 | exact U4 | exact U5 | exact U6 | exact U7 | exact U8 | exact U9 | exact U10 | exact U11 | exact U12 | exact U13 | exact U14 | exact U15 | exact U16 | exact U17 | exact U18 | exact U19 | exact U20 | exact U21 | exact U22 | exact U23) (by rfl) ?_)
  refine SPL_nil ?_
  refine thenPS_n ?_
  refine SPS_seq ?_
  refine SPS_recoverN rfl (by simp [recoverD, hu]) ?_
  refine thenPS_n ?_
  refine SPS_of ?_
  refine SP_block ?_
  refine SP_seq ?_
  refine SP_region ?_
  refine SPL_y (y_ieq_nil (c := true) Tryz.underlying20 rfl rfl) rfl ?_
  refine SPL_nil ?_
  refine thenP_n ?_
  refine SP_cond_t rfl ?_
  refine SP_region ?_
  refine SPL_y (y_assign rfl) rfl ?_
  refine SPL_nil ?_
  refine inBlockP_n ?_
  refine bodyPS_end (H' := [blk b5 47 [.pointer (some ⟨x, 0, none⟩)], blk b10 35 [rv], blk b11 3 [uv], blk b12 39 [ev], blk x 93 [pv, kv, .slice none 0 0, .slice none 0 0, I 0, I high]]) (u' := .returning) (by rw [← hu]) (Res0 rfl) (by repeat (first | exact Part.nil _ | (apply Part.cons; (first | exact P0 | exact P1 | exact P2 | exact P3 | exact P4 | exact P5 | exact P6 | exact P7 | exact P8 | exact P9 | exact P10 | exact P11 | exact P12 | exact P13 | exact P14 | exact P15 | exact P16 | exact P17 | exact P18 | exact P19 | exact P20 | exact P21 | exact P22 | exact P23)) | (apply Part.flat; simp only [List.cons_append, List.nil_append]) | (apply Part.nilc))) ?_
  exact ⟨_, rfl, rfl, rfl⟩

theorem call_defer_pan (x b5 b10 b11 b12 : Nat) (pv kv sv fv rv uv ev : Value) (used high e : Int) : SpecD Tryz.prog 85 [.pointer (some ⟨b5, 0, none⟩), .pointer (some ⟨b10, 0, none⟩), .pointer (some ⟨b11, 0, none⟩), .pointer (some ⟨b12, 0, none⟩)] (.panicking (trapC e)) [blk b5 47 [.pointer (some ⟨x, 0, none⟩)], blk b10 35 [rv], blk b11 3 [uv], blk b12 39 [ev], blk x 93 [pv, kv, sv, fv, I used, I high]] (fun z u' H => ∃ v0, z = .returned v0 ∧ settle u' = .returning ∧ H = [blk b5 47 [.pointer (some ⟨x, 0, none⟩)], blk b10 35 [.slice none 0 0], blk b11 3 [I used], blk b12 39 [.iface 51 (I e)], blk x 93 [pv, kv, .slice none 0 0, .slice none 0 0, I 0, I high]]) := by
  refine SpecD_enter Tryz.func85 rfl Tryz.ntmps85 rfl (fun c₀ cs hu => ?_)
  show SPS _ _ _ _ _ [(0, _), (1, _), (2, _), (3, _)] _ _
  refine SPS_seq ?_
  refine SPS_of ?_
  refine SP_region ?_
  refine SPL_y (y_load Tryz.isAgg47 rfl (by repeat (first | exact Cell.head rfl | apply Cell.tail))) rfl ?_
  refine SPL_y (y_nil rfl) rfl ?_
  refine SPL_y (y_fa fld_93_4 rfl) rfl ?_
  refine SPL_y (y_load Tryz.isAgg3 rfl (by repeat (first | exact Cell.head rfl | apply Cell.tail))) rfl ?_
  refine SPL_y (y_assign rfl) rfl ?_
  refine SPL_nil ?_
  refine thenPS_n ?_
  refine SPS_seq ?_
  refine SPS_of ?_
  refine SP_region ?_
  refine SPL_y (y_load Tryz.isAgg47 rfl (by repeat (first | exact Cell.head rfl | apply Cell.tail))) rfl ?_
  refine SPL_y (y_load Tryz.isAgg47 rfl (by repeat (first | exact Cell.head rfl | apply Cell.tail))) rfl ?_
  refine SPL_y (y_load Tryz.isAgg47 rfl (by repeat (first | exact Cell.head rfl | apply Cell.tail))) rfl ?_
  refine SPL_y (y_nil rfl) rfl ?_
  refine SPL_y (y_fa fld_93_2 rfl) rfl ?_
  refine SPL_one rfl (SP1_store Tryz.sizeOf90 rfl rfl rfl (by first | exact U0 | exact U1 | exact U2 | exact U3 | exact U4 | exact U5 | exact U6 | exact U7 | exact U8 | exact U9 | exact U10 | exact U11 | exact U12 | exact U13 | exact U14 | exact U15 | exact U16 | exact U17 | exact U18 | exact U19 | exact U20 | exact U21 | exact U22 | exact U23) (by rfl) ?_)
  refine SPL_y (y_nil rfl) rfl ?_
  refine SPL_y (y_fa fld_93_3 rfl) rfl ?_
  refine SPL_one rfl (SP1_store Tryz.sizeOf91 rfl rfl rfl (by first | exact U0 | exact U1 | exact U2 | exact U3 | exact U4 | exact U5 | exact U6 | exact U7 | exact U8 | exact U9 | exact U10 | exact U11 | exact U12 | exact U13 | exact U14 | exact U15 | exact U16 | exact U17 | exact U18 | exact U19 | exact U20 | exact U21 | exact U22 | exact U23) (by rfl) ?_)
  refine SPL_y (y_nil rfl) rfl ?_
  refine SPL_y (y_fa fld_93_4 rfl) rfl ?_
  refine SPL_one rfl (SP1_store Tryz.sizeOf3 rfl rfl rfl (by first | exact U0 | exact U1 | exact U2 | exact U3 | exact U4 | exact U5 | exact U6 | exact U7 | exact U8 | exact U9 | exact U10 | exact U11 | exact U12 | exact U13 | exact U14 | exact U15 | exact U16 | exact U17 | exact U18 | exact U19 | exact U20 | exact U21 | exact U22 | exact U23) (by rfl) ?_)
  refine SPL_nil ?_
  refine thenPS_n ?_
  refine SPS_seq ?_
  refine SPS_recover (v := .iface 206 (I e)) (cs' := { c₀ with mode := .panicking [{ v := .iface 206 (I e), recovered := true }] } :: cs) rfl (by simp [recoverD, hu, trapC]) ?_
  refine thenPS_n ?_
  refine SPS_of ?_
  refine SP_block ?_
  refine SP_seq ?_
  refine SP_region ?_
  refine SPL_y (y_ieq_nil (c := false) Tryz.underlying20 rfl rfl) rfl ?_
  refine SPL_nil ?_
  refine thenP_n ?_
  refine SP_cond_f rfl ?_
  refine SP_seq ?_
  refine SP_region ?_
  refine SPL_y (y_assertOk Tryz.underlying206 rfl rfl) rfl ?_
  refine SPL_y (y_ext rfl rfl) rfl ?_
  refine SPL_y (y_ext rfl rfl) rfl ?_
  refine SPL_nil ?_
  refine thenP_n ?_
  refine SP_cond_t rfl ?_
  refine SP_seq ?_
  refine SP_region ?_
  refine SPL_y (y_assign rfl) rfl ?_
  refine SPL_nil ?_
  refine thenP_n ?_
  refine SP_region ?_
  refine SPL_y (y_move rfl) rfl ?_
  refine SPL_y (y_move rfl) rfl ?_
  refine SPL_y (y_mki Tryz.underlying51 rfl rfl) rfl ?_
  refine SPL_one rfl (SP1_store Tryz.sizeOf35 rfl rfl rfl (by first | exact U0 | exact U1 | exact U2 | exact U3 | exact U4 | exact U5 | exact U6 | exact U7 | exact U8 | exact U9 | exact U10 | exact U11 | exact U12 | exact U13 | exact U14 | exact U15 | exact U16 | exact U17 | exact U18 | exact U19 | exact U20 | exact U21 | exact U22 | exact U23) (by rfl) ?_)
  refine SPL_one rfl (SP1_store Tryz.sizeOf3 rfl rfl rfl (by first | exact U0 | exact U1 | exact U2 | exact U3 | exact U4 | exact U5 | exact U6 | exact U7 | exact U8 | exact U9 | exact U10 | exact U11 | exact U12 | exact U13 | exact U14 | exact U15 | exact U16 | exact U17 | exact U18 | exact U19 | exact U20 | exact U21 | exact U22 | exact U23) (by rfl) ?_)
  refine SPL_one rfl (SP1_store Tryz.sizeOf39 rfl rfl rfl (by first | exact U0 | exact U1 | exact U2 | exact U3 | exact U4 | exact U5 | exact U6 | exact U7 | exact U8 | exact U9 | exact U10 | exact U11 | exact U12 | exact U13 | exact U14 | exact U15 | exact U16 | exact U17 | exact U18 | exact U19 | exact U20 | exact U21 | exact U22 | exact U23) (by rfl) ?_)
  refine SPL_nil ?_
  refine inBlockP_n ?_
  refine bodyPS_end (H' := [blk b5 47 [.pointer (some ⟨x, 0, none⟩)], blk b10 35 [.slice none 0 0], blk b11 3 [I used], blk b12 39 [.iface 51 (I e)], blk x 93 [pv, kv, .slice none 0 0, .slice none 0 0, I 0, I high]]) (u' := .panicking [{ v := .iface 206 (I e), recovered := true }]) rfl (Res0 rfl) (by repeat (first | exact Part.nil _ | (apply Part.cons; (first | exact P0 | exact P1 | exact P2 | exact P3 | exact P4 | exact P5 | exact P6 | exact P7 | exact P8 | exact P9 | exact P10 | exact P11 | exact P12 | exact P13 | exact P14 | exact P15 | exact P16 | exact P17 | exact P18 | exact P19 | exact P20 | exact P21 | exact P22 | exact P23)) | (apply Part.flat; simp only [List.cons_append, List.nil_append]) | (apply Part.nilc))) ?_
  exact ⟨_, rfl, rfl, rfl⟩

end Go.Sl
