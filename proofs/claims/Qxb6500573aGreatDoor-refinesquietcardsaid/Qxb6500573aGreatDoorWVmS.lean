/- Walks: package vm, return and unwind (made by program out of short notes) -/
import Derived.Test.Qxb6500573aGreatDoorBD
import Derived.Test.Qxb6500573aGreatDoorWVmR
import Derived.Test.Qxb6500573aGreatDoorSlTd
namespace Go.Sl
open Go Go.Wl Go.Proofs
set_option maxRecDepth 100000
set_option linter.unusedVariables false
set_option linter.unusedSimpArgs false
theorem run_defer_ret (b : VB) (b3 b5 b6 b7 : Nat) (th : Nat) (x : Ev) (d : Bool) : SpecD Tryz.prog 211 [pt b3, pt b5, pt b6, pt b7] .returning [blk b3 58 [pt b.vb], blk b5 260 [tp b th], blk b6 184 (evV (x)), blk b7 4 [.bool d]] (fun z u' H => ∃ v0, z = .returned v0 ∧ settle u' = .returning ∧ H = [blk b3 58 [pt b.vb], blk b5 260 [tp b th], blk b6 184 (evV (x)), blk b7 4 [.bool d]]) := by
  refine SpecD_enter Tryz.func211 rfl Tryz.ntmps211 rfl (fun c₀ cs hu => ?_)
  show SPS _ _ _ _ _ [(0, _), (1, _), (2, _), (3, _)] _ _
  refine SPS_seq ?_
  refine SPS_recoverN rfl (by simp [recoverD, hu]) ?_
  refine thenPS_n ?_
  refine SPS_of ?_
  refine SP_block ?_
  refine SP_seq ?_
  refine SP_region ?_
  refine SPL_y (y_ieq_nil (c := true) Tryz.underlying20 rfl rfl) rfl ?_
  refine SPL_nil ?_
  refine thenP_n ?_
  refine SP_cond_t rfl ?_
  refine SP_region ?_
  refine SPL_y (y_assign rfl) rfl ?_
  refine SPL_nil ?_
  refine inBlockP_n ?_
  refine bodyPS_end (H' := [blk b3 58 [pt b.vb], blk b5 260 [tp b th], blk b6 184 (evV (x)), blk b7 4 [.bool d]]) (u' := .returning) (by rw [← hu]) (Res0 rfl) (by repeat (first | exact Part.nil _ | (apply Part.cons; with_reducible (first | exact P0 | exact P1 | exact P2 | exact P3 | exact P4 | exact P5 | exact P6 | exact P7 | exact P8 | exact P9 | exact P10 | exact P11 | exact P12 | exact P13 | exact P14 | exact P15 | exact P16 | exact P17 | exact P18 | exact P19 | exact P20 | exact P21 | exact P22 | exact P23)) | (apply Part.flat; simp only [List.cons_append, List.nil_append]) | (apply Part.cons; (first | exact P0 | exact P1 | exact P2 | exact P3 | exact P4 | exact P5 | exact P6 | exact P7 | exact P8 | exact P9 | exact P10 | exact P11 | exact P12 | exact P13 | exact P14 | exact P15 | exact P16 | exact P17 | exact P18 | exact P19 | exact P20 | exact P21 | exact P22 | exact P23)) | (apply Part.nilc))) ?_
  exact ⟨_, rfl, rfl, rfl⟩

theorem run_defer_thr (b : VB) (ph : PH) (hh : List TH) {m m' : VM} {e : Ev} {d : Bool} {x : V} {th : Nat} (hP : unwindM th x m = some (e, d, m')) (seg : Seg) (hM : isVM b ph hh m seg) (b3 b5 b6 b7 bb : Nat) (x0 : Ev) (d0 : Bool) : SpecD Tryz.prog 211 [pt b3, pt b5, pt b6, pt b7] (.panicking (escC (.thr x m bb))) [blk b3 58 [pt b.vb], blk b5 260 [tp b th], blk b6 184 (evV (x0)), blk b7 4 [.bool d0], seg, blk bb 335 (valV x)] (fun z u' H => ∃ v0, z = .returned v0 ∧ settle u' = .returning ∧ ∃ hh' seg', isVM b ph hh' m' seg' ∧ H = [blk b3 58 [pt b.vb], blk b5 260 [tp b th], blk b6 184 (evV (e)), blk b7 4 [.bool d], seg']) := by
  refine SpecD_enter Tryz.func211 rfl Tryz.ntmps211 rfl (fun c₀ cs hu => ?_)
  show SPS _ _ _ _ _ [(0, _), (1, _), (2, _), (3, _)] _ _
  refine SPS_seq ?_
  refine SPS_recover (v := .iface 332 (pt bb)) (cs' := { c₀ with mode := .panicking [{ v := .iface 332 (pt bb), recovered := true }] } :: cs) rfl (by simp [recoverD, hu, escC]) ?_
  refine thenPS_n ?_
  refine SPS_of ?_
  refine SP_block ?_
  refine SP_seq ?_
  refine SP_region ?_
  refine SPL_y (y_ieq_nil (c := false) Tryz.underlying20 rfl rfl) rfl ?_
  refine SPL_nil ?_
  refine thenP_n ?_
  refine SP_cond_f rfl ?_
  refine SP_seq ?_
  refine SP_region ?_
  refine SPL_y (y_assertOk Tryz.underlying332 rfl rfl) rfl ?_
  refine SPL_y (y_ext rfl rfl) rfl ?_
  refine SPL_y (y_ext rfl rfl) rfl ?_
  refine SPL_nil ?_
  refine thenP_n ?_
  refine SP_cond_t rfl ?_
  refine SP_seq ?_
  refine SP_region ?_
  refine SPL_y (y_assign rfl) rfl ?_
  refine SPL_nil ?_
  refine thenP_n ?_
  refine SP_draw 6 [(2, 0), (3, 0), (4, 0), (0, 1), (1, 1), (5, 1), (6, 3), (7, 0), (8, 0), (9, 0), (10, 3), (11, 3)] mixed (by kernel_rfl) (fun _ _ _ _ _ h => h) (Part.refl _) ?_
  refine SPO_p rfl (y_move rfl) rfl ?_
  refine SPO_p rfl (y_nil rfl) rfl ?_
  refine SPO_p rfl (y_fa fld_335_0 rfl) rfl ?_
  refine SPO_h rfl (y_load Tryz.isAgg58 rfl (by repeat (first | exact Cell.amid hpre rfl | exact Cell.head rfl | apply Cell.tail))) rfl ?_
  refine SPO_h rfl (y_load Tryz.isAgg260 rfl (by repeat (first | exact Cell.amid hpre rfl | exact Cell.head rfl | apply Cell.tail))) rfl ?_
  refine SPO_h rfl (y_loads Tryz.isAgg42 Tryz.sizeOf42 rfl rfl (by repeat (first | exact Cells.all _ | exact Cells.amid hpre rfl (by decide) | exact Cells.head rfl | apply Cells.tail))) rfl ?_
  refine SPO_z (k := 0) rfl rfl (SP1_call (vm_unwind b ph hh hP _ hM) Tryz.call212 rfl rfl (by repeat (first | exact Part.nil _ | (apply Part.cons; with_reducible (first | exact P0 | exact P1 | exact P2 | exact P3 | exact P4 | exact P5 | exact P6 | exact P7 | exact P8 | exact P9 | exact P10 | exact P11 | exact P12 | exact P13 | exact P14 | exact P15 | exact P16 | exact P17 | exact P18 | exact P19 | exact P20 | exact P21 | exact P22 | exact P23)) | (apply Part.flat; simp only [List.cons_append, List.nil_append]) | (apply Part.cons; (first | exact P0 | exact P1 | exact P2 | exact P3 | exact P4 | exact P5 | exact P6 | exact P7 | exact P8 | exact P9 | exact P10 | exact P11 | exact P12 | exact P13 | exact P14 | exact P15 | exact P16 | exact P17 | exact P18 | exact P19 | exact P20 | exact P21 | exact P22 | exact P23)) | (apply Part.nilc))) ?_)
  rintro v post H' ⟨rfl, hh1, sg1, hk1, hM, rfl⟩ hH
  try simp only [List.cons_append, List.nil_append] at hH
  subst hH
  refine SPO_p rfl (y_move rfl) rfl ?_
  refine SPO_p rfl (y_ext rfl rfl) rfl ?_
  refine SPO_p rfl (y_ext rfl rfl) rfl ?_
  refine SPO_z (k := 0) rfl rfl (SP1_storeAll Tryz.sizeOf184 rfl rfl rfl rfl rfl (by first | exact U0 | exact U1 | exact U2 | exact U3 | exact U4 | exact U5 | exact U6 | exact U7 | exact U8 | exact U9 | exact U10 | exact U11 | exact U12 | exact U13 | exact U14 | exact U15 | exact U16 | exact U17 | exact U18 | exact U19 | exact U20 | exact U21 | exact U22 | exact U23) (by rfl) ?_)
  refine SPO_z (k := 0) rfl rfl (SP1_store Tryz.sizeOf4 rfl rfl rfl (by first | exact U0 | exact U1 | exact U2 | exact U3 | exact U4 | exact U5 | exact U6 | exact U7 | exact U8 | exact U9 | exact U10 | exact U11 | exact U12 | exact U13 | exact U14 | exact U15 | exact U16 | exact U17 | exact U18 | exact U19 | exact U20 | exact U21 | exact U22 | exact U23) (by rfl) ?_)
  refine SPO_nil ?_
  refine inBlockP_n ?_
  refine bodyPS_end (H' := [blk b3 58 [pt b.vb], blk b5 260 [tp b th], blk b6 184 (evV (e)), blk b7 4 [.bool d], sg1]) (u' := .panicking [{ v := .iface 332 (pt bb), recovered := true }]) rfl (Res0 rfl) (by repeat (first | exact Part.nil _ | (apply Part.cons; with_reducible (first | exact P0 | exact P1 | exact P2 | exact P3 | exact P4 | exact P5 | exact P6 | exact P7 | exact P8 | exact P9 | exact P10 | exact P11 | exact P12 | exact P13 | exact P14 | exact P15 | exact P16 | exact P17 | exact P18 | exact P19 | exact P20 | exact P21 | exact P22 | exact P23)) | (apply Part.flat; simp only [List.cons_append, List.nil_append]) | (apply Part.cons; (first | exact P0 | exact P1 | exact P2 | exact P3 | exact P4 | exact P5 | exact P6 | exact P7 | exact P8 | exact P9 | exact P10 | exact P11 | exact P12 | exact P13 | exact P14 | exact P15 | exact P16 | exact P17 | exact P18 | exact P19 | exact P20 | exact P21 | exact P22 | exact P23)) | (apply Part.nilc))) ?_
  exact ⟨_, rfl, rfl, hh1, sg1, hM, rfl⟩

theorem run_defer_trp (b : VB) (ph : PH) (hh : List TH) {m : VM} {e : Int} {th : Nat} (seg : Seg) (hM : isVM b ph hh m seg) (b3 b5 b6 b7 : Nat) (x0 : Ev) (d0 : Bool) : SpecD Tryz.prog 211 [pt b3, pt b5, pt b6, pt b7] (.panicking (escC (.trp e m))) [blk b3 58 [pt b.vb], blk b5 260 [tp b th], blk b6 184 (evV (x0)), blk b7 4 [.bool d0], seg] (fun z u' H => ∃ v0, z = .returned v0 ∧ settle u' = .returning ∧ ∃ hh' seg', isVM b ph hh' (wipeM e m) seg' ∧ H = [blk b3 58 [pt b.vb], blk b5 260 [tp b th], blk b6 184 (evV (⟨5, 0, e, V.nil, V.nil⟩)), blk b7 4 [.bool true], seg']) := by
  refine SpecD_enter Tryz.func211 rfl Tryz.ntmps211 rfl (fun c₀ cs hu => ?_)
  show SPS _ _ _ _ _ [(0, _), (1, _), (2, _), (3, _)] _ _
  refine SPS_seq ?_
  refine SPS_recover (v := .iface 336 (I e)) (cs' := { c₀ with mode := .panicking [{ v := .iface 336 (I e), recovered := true }] } :: cs) rfl (by simp [recoverD, hu, escC]) ?_
  refine thenPS_n ?_
  refine SPS_of ?_
  refine SP_block ?_
  refine SP_seq ?_
  refine SP_region ?_
  refine SPL_y (y_ieq_nil (c := false) Tryz.underlying20 rfl rfl) rfl ?_
  refine SPL_nil ?_
  refine thenP_n ?_
  refine SP_cond_f rfl ?_
  refine SP_seq ?_
  refine SP_region ?_
  refine SPL_y (y_assertNo Tryz.underlying332 rfl Tryz.zeroValue332 rfl rfl) rfl ?_
  refine SPL_y (y_ext rfl rfl) rfl ?_
  refine SPL_y (y_ext rfl rfl) rfl ?_
  refine SPL_nil ?_
  refine thenP_n ?_
  refine SP_cond_f rfl ?_
  refine SP_seq ?_
  refine SP_region ?_
  refine SPL_y (y_assertOk Tryz.underlying336 rfl rfl) rfl ?_
  refine SPL_y (y_ext rfl rfl) rfl ?_
  refine SPL_y (y_ext rfl rfl) rfl ?_
  refine SPL_nil ?_
  refine thenP_n ?_
  refine SP_cond_t rfl ?_
  refine SP_seq ?_
  refine SP_region ?_
  refine SPL_y (y_assign rfl) rfl ?_
  refine SPL_nil ?_
  refine thenP_n ?_
  refine SP_seq ?_
  refine SP_region ?_
  refine SPL_y (y_load Tryz.isAgg58 rfl (by repeat (first | exact Cell.amid hpre rfl | exact Cell.head rfl | apply Cell.tail))) rfl ?_
  refine SPL_y (y_move rfl) rfl ?_
  refine SPL_one rfl (SP1_call (vm_wipe b ph hh e _ hM) Tryz.call76 rfl rfl (by repeat (first | exact Part.nil _ | (apply Part.cons; with_reducible (first | exact P0 | exact P1 | exact P2 | exact P3 | exact P4 | exact P5 | exact P6 | exact P7 | exact P8 | exact P9 | exact P10 | exact P11 | exact P12 | exact P13 | exact P14 | exact P15 | exact P16 | exact P17 | exact P18 | exact P19 | exact P20 | exact P21 | exact P22 | exact P23)) | (apply Part.flat; simp only [List.cons_append, List.nil_append]) | (apply Part.cons; (first | exact P0 | exact P1 | exact P2 | exact P3 | exact P4 | exact P5 | exact P6 | exact P7 | exact P8 | exact P9 | exact P10 | exact P11 | exact P12 | exact P13 | exact P14 | exact P15 | exact P16 | exact P17 | exact P18 | exact P19 | exact P20 | exact P21 | exact P22 | exact P23)) | (apply Part.nilc))) ?_)
  rintro v post H' ⟨rfl, sg1, hM, rfl⟩ hH
  try simp only [List.cons_append, List.nil_append] at hH
  subst hH
  refine SPL_nil ?_
  refine thenP_n ?_
  refine SP_region ?_
  refine SPL_y (y_move rfl) rfl ?_
  refine SPL_y (y_buildN (l := (evV ⟨5, 0, e, V.nil, V.nil⟩)) BN184 rfl rfl) rfl ?_
  refine SPL_one rfl (SP1_storeAll Tryz.sizeOf184 rfl rfl rfl rfl rfl (by first | exact U0 | exact U1 | exact U2 | exact U3 | exact U4 | exact U5 | exact U6 | exact U7 | exact U8 | exact U9 | exact U10 | exact U11 | exact U12 | exact U13 | exact U14 | exact U15 | exact U16 | exact U17 | exact U18 | exact U19 | exact U20 | exact U21 | exact U22 | exact U23) (by rfl) ?_)
  refine SPL_one rfl (SP1_store Tryz.sizeOf4 rfl rfl rfl (by first | exact U0 | exact U1 | exact U2 | exact U3 | exact U4 | exact U5 | exact U6 | exact U7 | exact U8 | exact U9 | exact U10 | exact U11 | exact U12 | exact U13 | exact U14 | exact U15 | exact U16 | exact U17 | exact U18 | exact U19 | exact U20 | exact U21 | exact U22 | exact U23) (by rfl) ?_)
  refine SPL_nil ?_
  refine inBlockP_n ?_
  refine bodyPS_end (H' := [blk b3 58 [pt b.vb], blk b5 260 [tp b th], blk b6 184 (evV (⟨5, 0, e, V.nil, V.nil⟩)), blk b7 4 [.bool true], sg1]) (u' := .panicking [{ v := .iface 336 (I e), recovered := true }]) rfl (Res0 rfl) (by repeat (first | exact Part.nil _ | (apply Part.cons; with_reducible (first | exact P0 | exact P1 | exact P2 | exact P3 | exact P4 | exact P5 | exact P6 | exact P7 | exact P8 | exact P9 | exact P10 | exact P11 | exact P12 | exact P13 | exact P14 | exact P15 | exact P16 | exact P17 | exact P18 | exact P19 | exact P20 | exact P21 | exact P22 | exact P23)) | (apply Part.flat; simp only [List.cons_append, List.nil_append]) | (apply Part.cons; (first | exact P0 | exact P1 | exact P2 | exact P3 | exact P4 | exact P5 | exact P6 | exact P7 | exact P8 | exact P9 | exact P10 | exact P11 | exact P12 | exact P13 | exact P14 | exact P15 | exact P16 | exact P17 | exact P18 | exact P19 | exact P20 | exact P21 | exact P22 | exact P23)) | (apply Part.nilc))) ?_
  exact ⟨_, rfl, rfl, hh, sg1, hM, rfl⟩

end Go.Sl
