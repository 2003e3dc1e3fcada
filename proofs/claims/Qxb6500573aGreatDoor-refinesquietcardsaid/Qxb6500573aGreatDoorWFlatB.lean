/- Walks: package syntax, the tree laid flat: statements, lists, Parse (made by program out of short notes) -/
import Derived.Test.Qxb6500573aGreatDoorWFlat
namespace Go.Sl
open Go Go.Wl Go.Proofs
set_option maxRecDepth 100000
set_option linter.unusedVariables false
set_option linter.unusedSimpArgs false
set_option maxHeartbeats 400000 in
theorem fl_asg (y : SX) (fc : RecF) (hr : RecFOk y fc) {a : Int} {x k : T} {b : Nat} {vx : Value} {sx : Seg} (hx : IsN x vx sx) {vk : Value} {sk : Seg} (hk : IsN k vk sk) {ns ns' : List Nd} {r : Int} {s : Seg} (hs : isNs y ns s) (hP : stmtF fc (.asg a x k) ns = some (r, ns')) : Spec Tryz.prog 194 [pt y.b, .iface 309 (pt b)] [s, List.flatten [blk b 311 [I a, vx, vk], sx, sk]] (Ret (fkOk y r ns' (List.flatten [blk b 311 [I a, vx, vk], sx, sk]))) := by
  unfold stmtF at hP
  dsimp only at hP
  refine Spec_openAt [blk b 311 [I a, vx, vk], sx, sk] (by first | exact P0 | exact P1 | exact P2 | exact P3 | exact P4 | exact P5 | exact P6 | exact P7 | exact P8 | exact P9 | exact P10 | exact P11 | exact P12 | exact P13 | exact P14 | exact P15 | exact P16 | exact P17 | exact P18 | exact P19 | exact P20 | exact P21 | exact P22 | exact P23) ?_
  simp only [List.cons_append, List.nil_append]
  refine Spec_enter Tryz.func194 rfl Tryz.ntmps194 rfl ?_
  show SP _ _ _ _ _ [(0, _), (1, _)] _
  refine SP_seq ?_
  refine SP_region ?_
  refine SPL_y (y_assign rfl) rfl ?_
  refine SPL_nil ?_
  refine thenP_n ?_
  refine SP_seq ?_
  refine SP_region ?_
  refine SPL_y (y_move rfl) rfl ?_
  refine SPL_one rfl (SP1_invoke (rv := pt b) (args := []) rfl (posM309 _) pos309 rfl rfl (by repeat (first | exact Part.nil _ | (apply Part.cons; (first | exact P0 | exact P1 | exact P2 | exact P3 | exact P4 | exact P5 | exact P6 | exact P7 | exact P8 | exact P9 | exact P10 | exact P11 | exact P12 | exact P13 | exact P14 | exact P15 | exact P16 | exact P17 | exact P18 | exact P19 | exact P20 | exact P21 | exact P22 | exact P23)) | (apply Part.flat; simp only [List.cons_append, List.nil_append]) | (apply Part.nilc))) ?_)
  rintro v post H' ⟨rfl, rfl⟩ hH
  try simp only [List.cons_append, List.nil_append] at hH
  subst hH
  refine SPL_y (y_build B158 rfl rfl (by simp only [fillL, List.foldl_cons, List.foldl_nil, List.set_cons_zero, List.set_cons_succ]; exact rfl)) rfl ?_
  refine SPL_one rfl (SP1_alloc Tryz.zeroValue158 rfl rfl ?_)
  intro b5
  refine SPL_one rfl (SP1_storeAll Tryz.sizeOf158 rfl rfl rfl rfl rfl (by first | exact U0 | exact U1 | exact U2 | exact U3 | exact U4 | exact U5 | exact U6 | exact U7 | exact U8 | exact U9 | exact U10 | exact U11 | exact U12 | exact U13 | exact U14 | exact U15 | exact U16 | exact U17 | exact U18 | exact U19 | exact U20 | exact U21 | exact U22 | exact U23) (by rfl) ?_)
  refine SPL_nil ?_
  refine thenP_n ?_
  refine SP_seq ?_
  refine SP_seq ?_
  refine SP_region ?_
  refine SPL_y (y_move rfl) rfl ?_
  refine SPL_nil ?_
  refine thenP_n ?_
  refine SP_block ?_
  refine SP_seq ?_
  refine SP_region ?_
  refine SPL_y (y_assertNo Tryz.underlying363 rfl Tryz.zeroValue363 rfl rfl) rfl ?_
  refine SPL_y (y_ext rfl rfl) rfl ?_
  refine SPL_y (y_ext rfl rfl) rfl ?_
  refine SPL_nil ?_
  refine thenP_n ?_
  refine SP_cond_f rfl ?_
  refine SP_seq ?_
  refine SP_region ?_
  refine SPL_y (y_assertNo Tryz.underlying359 rfl Tryz.zeroValue359 rfl rfl) rfl ?_
  refine SPL_y (y_ext rfl rfl) rfl ?_
  refine SPL_y (y_ext rfl rfl) rfl ?_
  refine SPL_nil ?_
  refine thenP_n ?_
  refine SP_cond_f rfl ?_
  refine SP_seq ?_
  refine SP_region ?_
  refine SPL_y (y_assertOk Tryz.underlying309 rfl rfl) rfl ?_
  refine SPL_y (y_ext rfl rfl) rfl ?_
  refine SPL_y (y_ext rfl rfl) rfl ?_
  refine SPL_nil ?_
  refine thenP_n ?_
  refine SP_cond_t rfl ?_
  refine SP_seq ?_
  refine SP_region ?_
  refine SPL_y (y_assign rfl) rfl ?_
  refine SPL_nil ?_
  refine thenP_n ?_
  refine SP_seq ?_
  refine SP_region ?_
  refine SPL_y (y_fa fld_158_0 rfl) rfl ?_
  refine SPL_one rfl (SP1_store Tryz.sizeOf3 rfl rfl rfl (by first | exact U0 | exact U1 | exact U2 | exact U3 | exact U4 | exact U5 | exact U6 | exact U7 | exact U8 | exact U9 | exact U10 | exact U11 | exact U12 | exact U13 | exact U14 | exact U15 | exact U16 | exact U17 | exact U18 | exact U19 | exact U20 | exact U21 | exact U22 | exact U23) (by rfl) ?_)
  refine SPL_nil ?_
  refine thenP_n ?_
  refine SP_seq ?_
  refine SP_region ?_
  refine SPL_y (y_move rfl) rfl ?_
  refine SPL_y (y_move rfl) rfl ?_
  refine SPL_y (y_nil rfl) rfl ?_
  refine SPL_y (y_fa fld_311_1 rfl) rfl ?_
  refine SPL_y (y_load Tryz.isAgg292 rfl (by repeat (first | exact Cell.amid hpre rfl | exact Cell.head rfl | apply Cell.tail))) rfl ?_
  obtain ⟨p20, ns20, hq20, hP⟩ := bnd2 hP
  refine SPL_one rfl (SP1_call (hr.expr (by assumption) (by assumption) hq20) Tryz.call195 rfl rfl (by repeat (first | exact Part.nil _ | (apply Part.cons; (first | exact P0 | exact P1 | exact P2 | exact P3 | exact P4 | exact P5 | exact P6 | exact P7 | exact P8 | exact P9 | exact P10 | exact P11 | exact P12 | exact P13 | exact P14 | exact P15 | exact P16 | exact P17 | exact P18 | exact P19 | exact P20 | exact P21 | exact P22 | exact P23)) | (apply Part.flat; simp only [List.cons_append, List.nil_append]) | (apply Part.nilc))) ?_)
  rintro v post H' ⟨rfl, s20, hs20, rfl⟩ hH
  try simp only [List.cons_append, List.nil_append] at hH
  subst hH
  refine SPL_y (y_fa fld_158_1 rfl) rfl ?_
  refine SPL_one rfl (SP1_store Tryz.sizeOf3 rfl rfl rfl (by first | exact U0 | exact U1 | exact U2 | exact U3 | exact U4 | exact U5 | exact U6 | exact U7 | exact U8 | exact U9 | exact U10 | exact U11 | exact U12 | exact U13 | exact U14 | exact U15 | exact U16 | exact U17 | exact U18 | exact U19 | exact U20 | exact U21 | exact U22 | exact U23) (by rfl) ?_)
  refine SPL_nil ?_
  refine thenP_n ?_
  refine SP_region ?_
  refine SPL_y (y_move rfl) rfl ?_
  refine SPL_y (y_move rfl) rfl ?_
  refine SPL_y (y_nil rfl) rfl ?_
  refine SPL_y (y_fa fld_311_2 rfl) rfl ?_
  refine SPL_y (y_load Tryz.isAgg292 rfl (by repeat (first | exact Cell.amid hpre rfl | exact Cell.head rfl | apply Cell.tail))) rfl ?_
  obtain ⟨p21, ns21, hq21, hP⟩ := bnd2 hP
  refine SPL_one rfl (SP1_call (hr.expr (by assumption) (by assumption) hq21) Tryz.call195 rfl rfl (by repeat (first | exact Part.nil _ | (apply Part.cons; (first | exact P0 | exact P1 | exact P2 | exact P3 | exact P4 | exact P5 | exact P6 | exact P7 | exact P8 | exact P9 | exact P10 | exact P11 | exact P12 | exact P13 | exact P14 | exact P15 | exact P16 | exact P17 | exact P18 | exact P19 | exact P20 | exact P21 | exact P22 | exact P23)) | (apply Part.flat; simp only [List.cons_append, List.nil_append]) | (apply Part.nilc))) ?_)
  rintro v post H' ⟨rfl, s21, hs21, rfl⟩ hH
  try simp only [List.cons_append, List.nil_append] at hH
  subst hH
  refine SPL_y (y_fa fld_158_2 rfl) rfl ?_
  refine SPL_one rfl (SP1_store Tryz.sizeOf3 rfl rfl rfl (by first | exact U0 | exact U1 | exact U2 | exact U3 | exact U4 | exact U5 | exact U6 | exact U7 | exact U8 | exact U9 | exact U10 | exact U11 | exact U12 | exact U13 | exact U14 | exact U15 | exact U16 | exact U17 | exact U18 | exact U19 | exact U20 | exact U21 | exact U22 | exact U23) (by rfl) ?_)
  refine SPL_nil ?_
  refine inBlockP_n ?_
  refine thenP_n ?_
  refine SP_seq ?_
  refine SP_region ?_
  refine SPL_y (y_move rfl) rfl ?_
  refine SPL_y (y_loads Tryz.isAgg158 Tryz.sizeOf158 rfl rfl (by repeat (first | exact Cells.all _ | exact Cells.amid hpre rfl (by decide) | exact Cells.head rfl | apply Cells.tail))) rfl ?_
  refine SPL_one rfl (SP1_call (fl_add y (by assumption) hP) Tryz.call247 rfl rfl (by repeat (first | exact Part.nil _ | (apply Part.cons; (first | exact P0 | exact P1 | exact P2 | exact P3 | exact P4 | exact P5 | exact P6 | exact P7 | exact P8 | exact P9 | exact P10 | exact P11 | exact P12 | exact P13 | exact P14 | exact P15 | exact P16 | exact P17 | exact P18 | exact P19 | exact P20 | exact P21 | exact P22 | exact P23)) | (apply Part.flat; simp only [List.cons_append, List.nil_append]) | (apply Part.nilc))) ?_)
  rintro v post H' ⟨rfl, s57, hs57, rfl⟩ hH
  try simp only [List.cons_append, List.nil_append] at hH
  subst hH
  refine SPL_y (y_assign rfl) rfl ?_
  refine SPL_nil ?_
  refine thenP_n ?_
  refine SP_ret ?_
  refine bodyP_ret (H' := [s57, List.flatten [blk b 311 [I a, vx, vk], sx, sk]]) (Res1 rfl rfl) (by repeat (first | exact Part.nil _ | (apply Part.cons; (first | exact P0 | exact P1 | exact P2 | exact P3 | exact P4 | exact P5 | exact P6 | exact P7 | exact P8 | exact P9 | exact P10 | exact P11 | exact P12 | exact P13 | exact P14 | exact P15 | exact P16 | exact P17 | exact P18 | exact P19 | exact P20 | exact P21 | exact P22 | exact P23)) | (apply Part.flat; simp only [List.cons_append, List.nil_append]) | (apply Part.nilc))) ?_
  exact ⟨rfl, s57, hs57, rfl⟩

set_option maxHeartbeats 400000 in
theorem fl_ife (y : SX) (fc : RecF) (hr : RecFOk y fc) {a : Int} {x : T} {l d : List T} {b : Nat} {vx : Value} {sx : Seg} (hx : IsN x vx sx) {ml cl : Nat} {al : Option Addr} {sl : Seg} (hl : IsL l al ml cl sl) {md cd : Nat} {ad : Option Addr} {sd : Seg} (hd : IsL d ad md cd sd) {ns ns' : List Nd} {r : Int} {s : Seg} (hs : isNs y ns s) (hP : stmtF fc (.ife a x l d) ns = some (r, ns')) : Spec Tryz.prog 194 [pt y.b, .iface 366 (pt b)] [s, List.flatten [blk b 368 [I a, vx, .slice al ml cl, .slice ad md cd], sx, sl, sd]] (Ret (fkOk y r ns' (List.flatten [blk b 368 [I a, vx, .slice al ml cl, .slice ad md cd], sx, sl, sd]))) := by
  unfold stmtF at hP
  dsimp only at hP
  refine Spec_openAt [blk b 368 [I a, vx, .slice al ml cl, .slice ad md cd], sx, sl, sd] (by first | exact P0 | exact P1 | exact P2 | exact P3 | exact P4 | exact P5 | exact P6 | exact P7 | exact P8 | exact P9 | exact P10 | exact P11 | exact P12 | exact P13 | exact P14 | exact P15 | exact P16 | exact P17 | exact P18 | exact P19 | exact P20 | exact P21 | exact P22 | exact P23) ?_
  simp only [List.cons_append, List.nil_append]
  refine Spec_enter Tryz.func194 rfl Tryz.ntmps194 rfl ?_
  show SP _ _ _ _ _ [(0, _), (1, _)] _
  refine SP_seq ?_
  refine SP_region ?_
  refine SPL_y (y_assign rfl) rfl ?_
  refine SPL_nil ?_
  refine thenP_n ?_
  refine SP_seq ?_
  refine SP_region ?_
  refine SPL_y (y_move rfl) rfl ?_
  refine SPL_one rfl (SP1_invoke (rv := pt b) (args := []) rfl (posM366 _) pos366 rfl rfl (by repeat (first | exact Part.nil _ | (apply Part.cons; (first | exact P0 | exact P1 | exact P2 | exact P3 | exact P4 | exact P5 | exact P6 | exact P7 | exact P8 | exact P9 | exact P10 | exact P11 | exact P12 | exact P13 | exact P14 | exact P15 | exact P16 | exact P17 | exact P18 | exact P19 | exact P20 | exact P21 | exact P22 | exact P23)) | (apply Part.flat; simp only [List.cons_append, List.nil_append]) | (apply Part.nilc))) ?_)
  rintro v post H' ⟨rfl, rfl⟩ hH
  try simp only [List.cons_append, List.nil_append] at hH
  subst hH
  refine SPL_y (y_build B158 rfl rfl (by simp only [fillL, List.foldl_cons, List.foldl_nil, List.set_cons_zero, List.set_cons_succ]; exact rfl)) rfl ?_
  refine SPL_one rfl (SP1_alloc Tryz.zeroValue158 rfl rfl ?_)
  intro b5
  refine SPL_one rfl (SP1_storeAll Tryz.sizeOf158 rfl rfl rfl rfl rfl (by first | exact U0 | exact U1 | exact U2 | exact U3 | exact U4 | exact U5 | exact U6 | exact U7 | exact U8 | exact U9 | exact U10 | exact U11 | exact U12 | exact U13 | exact U14 | exact U15 | exact U16 | exact U17 | exact U18 | exact U19 | exact U20 | exact U21 | exact U22 | exact U23) (by rfl) ?_)
  refine SPL_nil ?_
  refine thenP_n ?_
  refine SP_seq ?_
  refine SP_seq ?_
  refine SP_region ?_
  refine SPL_y (y_move rfl) rfl ?_
  refine SPL_nil ?_
  refine thenP_n ?_
  refine SP_block ?_
  refine SP_seq ?_
  refine SP_region ?_
  refine SPL_y (y_assertNo Tryz.underlying363 rfl Tryz.zeroValue363 rfl rfl) rfl ?_
  refine SPL_y (y_ext rfl rfl) rfl ?_
  refine SPL_y (y_ext rfl rfl) rfl ?_
  refine SPL_nil ?_
  refine thenP_n ?_
  refine SP_cond_f rfl ?_
  refine SP_seq ?_
  refine SP_region ?_
  refine SPL_y (y_assertNo Tryz.underlying359 rfl Tryz.zeroValue359 rfl rfl) rfl ?_
  refine SPL_y (y_ext rfl rfl) rfl ?_
  refine SPL_y (y_ext rfl rfl) rfl ?_
  refine SPL_nil ?_
  refine thenP_n ?_
  refine SP_cond_f rfl ?_
  refine SP_seq ?_
  refine SP_region ?_
  refine SPL_y (y_assertNo Tryz.underlying309 rfl Tryz.zeroValue309 rfl rfl) rfl ?_
  refine SPL_y (y_ext rfl rfl) rfl ?_
  refine SPL_y (y_ext rfl rfl) rfl ?_
  refine SPL_nil ?_
  refine thenP_n ?_
  refine SP_cond_f rfl ?_
  refine SP_seq ?_
  refine SP_region ?_
  refine SPL_y (y_assertNo Tryz.underlying304 rfl Tryz.zeroValue304 rfl rfl) rfl ?_
  refine SPL_y (y_ext rfl rfl) rfl ?_
  refine SPL_y (y_ext rfl rfl) rfl ?_
  refine SPL_nil ?_
  refine thenP_n ?_
  refine SP_cond_f rfl ?_
  refine SP_seq ?_
  refine SP_region ?_
  refine SPL_y (y_assertOk Tryz.underlying366 rfl rfl) rfl ?_
  refine SPL_y (y_ext rfl rfl) rfl ?_
  refine SPL_y (y_ext rfl rfl) rfl ?_
  refine SPL_nil ?_
  refine thenP_n ?_
  refine SP_cond_t rfl ?_
  refine SP_seq ?_
  refine SP_region ?_
  refine SPL_y (y_assign rfl) rfl ?_
  refine SPL_nil ?_
  refine thenP_n ?_
  refine SP_seq ?_
  refine SP_region ?_
  refine SPL_y (y_fa fld_158_0 rfl) rfl ?_
  refine SPL_one rfl (SP1_store Tryz.sizeOf3 rfl rfl rfl (by first | exact U0 | exact U1 | exact U2 | exact U3 | exact U4 | exact U5 | exact U6 | exact U7 | exact U8 | exact U9 | exact U10 | exact U11 | exact U12 | exact U13 | exact U14 | exact U15 | exact U16 | exact U17 | exact U18 | exact U19 | exact U20 | exact U21 | exact U22 | exact U23) (by rfl) ?_)
  refine SPL_nil ?_
  refine thenP_n ?_
  refine SP_seq ?_
  refine SP_region ?_
  refine SPL_y (y_move rfl) rfl ?_
  refine SPL_y (y_move rfl) rfl ?_
  refine SPL_y (y_nil rfl) rfl ?_
  refine SPL_y (y_fa fld_368_1 rfl) rfl ?_
  refine SPL_y (y_load Tryz.isAgg292 rfl (by repeat (first | exact Cell.amid hpre rfl | exact Cell.head rfl | apply Cell.tail))) rfl ?_
  obtain ⟨p29, ns29, hq29, hP⟩ := bnd2 hP
  refine SPL_one rfl (SP1_call (hr.expr (by assumption) (by assumption) hq29) Tryz.call195 rfl rfl (by repeat (first | exact Part.nil _ | (apply Part.cons; (first | exact P0 | exact P1 | exact P2 | exact P3 | exact P4 | exact P5 | exact P6 | exact P7 | exact P8 | exact P9 | exact P10 | exact P11 | exact P12 | exact P13 | exact P14 | exact P15 | exact P16 | exact P17 | exact P18 | exact P19 | exact P20 | exact P21 | exact P22 | exact P23)) | (apply Part.flat; simp only [List.cons_append, List.nil_append]) | (apply Part.nilc))) ?_)
  rintro v post H' ⟨rfl, s29, hs29, rfl⟩ hH
  try simp only [List.cons_append, List.nil_append] at hH
  subst hH
  refine SPL_y (y_fa fld_158_1 rfl) rfl ?_
  refine SPL_one rfl (SP1_store Tryz.sizeOf3 rfl rfl rfl (by first | exact U0 | exact U1 | exact U2 | exact U3 | exact U4 | exact U5 | exact U6 | exact U7 | exact U8 | exact U9 | exact U10 | exact U11 | exact U12 | exact U13 | exact U14 | exact U15 | exact U16 | exact U17 | exact U18 | exact U19 | exact U20 | exact U21 | exact U22 | exact U23) (by rfl) ?_)
  refine SPL_nil ?_
  refine thenP_n ?_
  refine SP_seq ?_
  refine SP_region ?_
  refine SPL_y (y_move rfl) rfl ?_
  refine SPL_y (y_move rfl) rfl ?_
  refine SPL_y (y_nil rfl) rfl ?_
  refine SPL_y (y_fa fld_368_2 rfl) rfl ?_
  refine SPL_y (y_load Tryz.isAgg172 rfl (by repeat (first | exact Cell.amid hpre rfl | exact Cell.head rfl | apply Cell.tail))) rfl ?_
  obtain ⟨p30, ns30, hq30, hP⟩ := bnd2 hP
  refine SPL_one rfl (SP1_call (hr.chain (by assumption) (by assumption) hq30) Tryz.call71 rfl rfl (by repeat (first | exact Part.nil _ | (apply Part.cons; (first | exact P0 | exact P1 | exact P2 | exact P3 | exact P4 | exact P5 | exact P6 | exact P7 | exact P8 | exact P9 | exact P10 | exact P11 | exact P12 | exact P13 | exact P14 | exact P15 | exact P16 | exact P17 | exact P18 | exact P19 | exact P20 | exact P21 | exact P22 | exact P23)) | (apply Part.flat; simp only [List.cons_append, List.nil_append]) | (apply Part.nilc))) ?_)
  rintro v post H' ⟨rfl, s30, hs30, rfl⟩ hH
  try simp only [List.cons_append, List.nil_append] at hH
  subst hH
  refine SPL_y (y_fa fld_158_2 rfl) rfl ?_
  refine SPL_one rfl (SP1_store Tryz.sizeOf3 rfl rfl rfl (by first | exact U0 | exact U1 | exact U2 | exact U3 | exact U4 | exact U5 | exact U6 | exact U7 | exact U8 | exact U9 | exact U10 | exact U11 | exact U12 | exact U13 | exact U14 | exact U15 | exact U16 | exact U17 | exact U18 | exact U19 | exact U20 | exact U21 | exact U22 | exact U23) (by rfl) ?_)
  refine SPL_nil ?_
  refine thenP_n ?_
  refine SP_region ?_
  refine SPL_y (y_move rfl) rfl ?_
  refine SPL_y (y_move rfl) rfl ?_
  refine SPL_y (y_nil rfl) rfl ?_
  refine SPL_y (y_fa fld_368_3 rfl) rfl ?_
  refine SPL_y (y_load Tryz.isAgg172 rfl (by repeat (first | exact Cell.amid hpre rfl | exact Cell.head rfl | apply Cell.tail))) rfl ?_
  obtain ⟨p31, ns31, hq31, hP⟩ := bnd2 hP
  refine SPL_one rfl (SP1_call (hr.chain (by assumption) (by assumption) hq31) Tryz.call71 rfl rfl (by repeat (first | exact Part.nil _ | (apply Part.cons; (first | exact P0 | exact P1 | exact P2 | exact P3 | exact P4 | exact P5 | exact P6 | exact P7 | exact P8 | exact P9 | exact P10 | exact P11 | exact P12 | exact P13 | exact P14 | exact P15 | exact P16 | exact P17 | exact P18 | exact P19 | exact P20 | exact P21 | exact P22 | exact P23)) | (apply Part.flat; simp only [List.cons_append, List.nil_append]) | (apply Part.nilc))) ?_)
  rintro v post H' ⟨rfl, s31, hs31, rfl⟩ hH
  try simp only [List.cons_append, List.nil_append] at hH
  subst hH
  refine SPL_y (y_fa fld_158_3 rfl) rfl ?_
  refine SPL_one rfl (SP1_store Tryz.sizeOf3 rfl rfl rfl (by first | exact U0 | exact U1 | exact U2 | exact U3 | exact U4 | exact U5 | exact U6 | exact U7 | exact U8 | exact U9 | exact U10 | exact U11 | exact U12 | exact U13 | exact U14 | exact U15 | exact U16 | exact U17 | exact U18 | exact U19 | exact U20 | exact U21 | exact U22 | exact U23) (by rfl) ?_)
  refine SPL_nil ?_
  refine inBlockP_n ?_
  refine thenP_n ?_
  refine SP_seq ?_
  refine SP_region ?_
  refine SPL_y (y_move rfl) rfl ?_
  refine SPL_y (y_loads Tryz.isAgg158 Tryz.sizeOf158 rfl rfl (by repeat (first | exact Cells.all _ | exact Cells.amid hpre rfl (by decide) | exact Cells.head rfl | apply Cells.tail))) rfl ?_
  refine SPL_one rfl (SP1_call (fl_add y (by assumption) hP) Tryz.call247 rfl rfl (by repeat (first | exact Part.nil _ | (apply Part.cons; (first | exact P0 | exact P1 | exact P2 | exact P3 | exact P4 | exact P5 | exact P6 | exact P7 | exact P8 | exact P9 | exact P10 | exact P11 | exact P12 | exact P13 | exact P14 | exact P15 | exact P16 | exact P17 | exact P18 | exact P19 | exact P20 | exact P21 | exact P22 | exact P23)) | (apply Part.flat; simp only [List.cons_append, List.nil_append]) | (apply Part.nilc))) ?_)
  rintro v post H' ⟨rfl, s57, hs57, rfl⟩ hH
  try simp only [List.cons_append, List.nil_append] at hH
  subst hH
  refine SPL_y (y_assign rfl) rfl ?_
  refine SPL_nil ?_
  refine thenP_n ?_
  refine SP_ret ?_
  refine bodyP_ret (H' := [s57, List.flatten [blk b 368 [I a, vx, .slice al ml cl, .slice ad md cd], sx, sl, sd]]) (Res1 rfl rfl) (by repeat (first | exact Part.nil _ | (apply Part.cons; (first | exact P0 | exact P1 | exact P2 | exact P3 | exact P4 | exact P5 | exact P6 | exact P7 | exact P8 | exact P9 | exact P10 | exact P11 | exact P12 | exact P13 | exact P14 | exact P15 | exact P16 | exact P17 | exact P18 | exact P19 | exact P20 | exact P21 | exact P22 | exact P23)) | (apply Part.flat; simp only [List.cons_append, List.nil_append]) | (apply Part.nilc))) ?_
  exact ⟨rfl, s57, hs57, rfl⟩

set_option maxHeartbeats 400000 in
theorem fl_whl (y : SX) (fc : RecF) (hr : RecFOk y fc) {a : Int} {x : T} {l : List T} {b : Nat} {vx : Value} {sx : Seg} (hx : IsN x vx sx) {ml cl : Nat} {al : Option Addr} {sl : Seg} (hl : IsL l al ml cl sl) {ns ns' : List Nd} {r : Int} {s : Seg} (hs : isNs y ns s) (hP : stmtF fc (.whl a x l) ns = some (r, ns')) : Spec Tryz.prog 194 [pt y.b, .iface 295 (pt b)] [s, List.flatten [blk b 297 [I a, vx, .slice al ml cl], sx, sl]] (Ret (fkOk y r ns' (List.flatten [blk b 297 [I a, vx, .slice al ml cl], sx, sl]))) := by
  unfold stmtF at hP
  dsimp only at hP
  refine Spec_openAt [blk b 297 [I a, vx, .slice al ml cl], sx, sl] (by first | exact P0 | exact P1 | exact P2 | exact P3 | exact P4 | exact P5 | exact P6 | exact P7 | exact P8 | exact P9 | exact P10 | exact P11 | exact P12 | exact P13 | exact P14 | exact P15 | exact P16 | exact P17 | exact P18 | exact P19 | exact P20 | exact P21 | exact P22 | exact P23) ?_
  simp only [List.cons_append, List.nil_append]
  refine Spec_enter Tryz.func194 rfl Tryz.ntmps194 rfl ?_
  show SP _ _ _ _ _ [(0, _), (1, _)] _
  refine SP_seq ?_
  refine SP_region ?_
  refine SPL_y (y_assign rfl) rfl ?_
  refine SPL_nil ?_
  refine thenP_n ?_
  refine SP_seq ?_
  refine SP_region ?_
  refine SPL_y (y_move rfl) rfl ?_
  refine SPL_one rfl (SP1_invoke (rv := pt b) (args := []) rfl (posM295 _) pos295 rfl rfl (by repeat (first | exact Part.nil _ | (apply Part.cons; (first | exact P0 | exact P1 | exact P2 | exact P3 | exact P4 | exact P5 | exact P6 | exact P7 | exact P8 | exact P9 | exact P10 | exact P11 | exact P12 | exact P13 | exact P14 | exact P15 | exact P16 | exact P17 | exact P18 | exact P19 | exact P20 | exact P21 | exact P22 | exact P23)) | (apply Part.flat; simp only [List.cons_append, List.nil_append]) | (apply Part.nilc))) ?_)
  rintro v post H' ⟨rfl, rfl⟩ hH
  try simp only [List.cons_append, List.nil_append] at hH
  subst hH
  refine SPL_y (y_build B158 rfl rfl (by simp only [fillL, List.foldl_cons, List.foldl_nil, List.set_cons_zero, List.set_cons_succ]; exact rfl)) rfl ?_
  refine SPL_one rfl (SP1_alloc Tryz.zeroValue158 rfl rfl ?_)
  intro b5
  refine SPL_one rfl (SP1_storeAll Tryz.sizeOf158 rfl rfl rfl rfl rfl (by first | exact U0 | exact U1 | exact U2 | exact U3 | exact U4 | exact U5 | exact U6 | exact U7 | exact U8 | exact U9 | exact U10 | exact U11 | exact U12 | exact U13 | exact U14 | exact U15 | exact U16 | exact U17 | exact U18 | exact U19 | exact U20 | exact U21 | exact U22 | exact U23) (by rfl) ?_)
  refine SPL_nil ?_
  refine thenP_n ?_
  refine SP_seq ?_
  refine SP_seq ?_
  refine SP_region ?_
  refine SPL_y (y_move rfl) rfl ?_
  refine SPL_nil ?_
  refine thenP_n ?_
  refine SP_block ?_
  refine SP_seq ?_
  refine SP_region ?_
  refine SPL_y (y_assertNo Tryz.underlying363 rfl Tryz.zeroValue363 rfl rfl) rfl ?_
  refine SPL_y (y_ext rfl rfl) rfl ?_
  refine SPL_y (y_ext rfl rfl) rfl ?_
  refine SPL_nil ?_
  refine thenP_n ?_
  refine SP_cond_f rfl ?_
  refine SP_seq ?_
  refine SP_region ?_
  refine SPL_y (y_assertNo Tryz.underlying359 rfl Tryz.zeroValue359 rfl rfl) rfl ?_
  refine SPL_y (y_ext rfl rfl) rfl ?_
  refine SPL_y (y_ext rfl rfl) rfl ?_
  refine SPL_nil ?_
  refine thenP_n ?_
  refine SP_cond_f rfl ?_
  refine SP_seq ?_
  refine SP_region ?_
  refine SPL_y (y_assertNo Tryz.underlying309 rfl Tryz.zeroValue309 rfl rfl) rfl ?_
  refine SPL_y (y_ext rfl rfl) rfl ?_
  refine SPL_y (y_ext rfl rfl) rfl ?_
  refine SPL_nil ?_
  refine thenP_n ?_
  refine SP_cond_f rfl ?_
  refine SP_seq ?_
  refine SP_region ?_
  refine SPL_y (y_assertNo Tryz.underlying304 rfl Tryz.zeroValue304 rfl rfl) rfl ?_
  refine SPL_y (y_ext rfl rfl) rfl ?_
  refine SPL_y (y_ext rfl rfl) rfl ?_
  refine SPL_nil ?_
  refine thenP_n ?_
  refine SP_cond_f rfl ?_
  refine SP_seq ?_
  refine SP_region ?_
  refine SPL_y (y_assertNo Tryz.underlying366 rfl Tryz.zeroValue366 rfl rfl) rfl ?_
  refine SPL_y (y_ext rfl rfl) rfl ?_
  refine SPL_y (y_ext rfl rfl) rfl ?_
  refine SPL_nil ?_
  refine thenP_n ?_
  refine SP_cond_f rfl ?_
  refine SP_seq ?_
  refine SP_region ?_
  refine SPL_y (y_assertOk Tryz.underlying295 rfl rfl) rfl ?_
  refine SPL_y (y_ext rfl rfl) rfl ?_
  refine SPL_y (y_ext rfl rfl) rfl ?_
  refine SPL_nil ?_
  refine thenP_n ?_
  refine SP_cond_t rfl ?_
  refine SP_seq ?_
  refine SP_region ?_
  refine SPL_y (y_assign rfl) rfl ?_
  refine SPL_nil ?_
  refine thenP_n ?_
  refine SP_seq ?_
  refine SP_region ?_
  refine SPL_y (y_fa fld_158_0 rfl) rfl ?_
  refine SPL_one rfl (SP1_store Tryz.sizeOf3 rfl rfl rfl (by first | exact U0 | exact U1 | exact U2 | exact U3 | exact U4 | exact U5 | exact U6 | exact U7 | exact U8 | exact U9 | exact U10 | exact U11 | exact U12 | exact U13 | exact U14 | exact U15 | exact U16 | exact U17 | exact U18 | exact U19 | exact U20 | exact U21 | exact U22 | exact U23) (by rfl) ?_)
  refine SPL_nil ?_
  refine thenP_n ?_
  refine SP_seq ?_
  refine SP_region ?_
  refine SPL_y (y_move rfl) rfl ?_
  refine SPL_y (y_move rfl) rfl ?_
  refine SPL_y (y_nil rfl) rfl ?_
  refine SPL_y (y_fa fld_297_1 rfl) rfl ?_
  refine SPL_y (y_load Tryz.isAgg292 rfl (by repeat (first | exact Cell.amid hpre rfl | exact Cell.head rfl | apply Cell.tail))) rfl ?_
  obtain ⟨p35, ns35, hq35, hP⟩ := bnd2 hP
  refine SPL_one rfl (SP1_call (hr.expr (by assumption) (by assumption) hq35) Tryz.call195 rfl rfl (by repeat (first | exact Part.nil _ | (apply Part.cons; (first | exact P0 | exact P1 | exact P2 | exact P3 | exact P4 | exact P5 | exact P6 | exact P7 | exact P8 | exact P9 | exact P10 | exact P11 | exact P12 | exact P13 | exact P14 | exact P15 | exact P16 | exact P17 | exact P18 | exact P19 | exact P20 | exact P21 | exact P22 | exact P23)) | (apply Part.flat; simp only [List.cons_append, List.nil_append]) | (apply Part.nilc))) ?_)
  rintro v post H' ⟨rfl, s35, hs35, rfl⟩ hH
  try simp only [List.cons_append, List.nil_append] at hH
  subst hH
  refine SPL_y (y_fa fld_158_1 rfl) rfl ?_
  refine SPL_one rfl (SP1_store Tryz.sizeOf3 rfl rfl rfl (by first | exact U0 | exact U1 | exact U2 | exact U3 | exact U4 | exact U5 | exact U6 | exact U7 | exact U8 | exact U9 | exact U10 | exact U11 | exact U12 | exact U13 | exact U14 | exact U15 | exact U16 | exact U17 | exact U18 | exact U19 | exact U20 | exact U21 | exact U22 | exact U23) (by rfl) ?_)
  refine SPL_nil ?_
  refine thenP_n ?_
  refine SP_region ?_
  refine SPL_y (y_move rfl) rfl ?_
  refine SPL_y (y_move rfl) rfl ?_
  refine SPL_y (y_nil rfl) rfl ?_
  refine SPL_y (y_fa fld_297_2 rfl) rfl ?_
  refine SPL_y (y_load Tryz.isAgg172 rfl (by repeat (first | exact Cell.amid hpre rfl | exact Cell.head rfl | apply Cell.tail))) rfl ?_
  obtain ⟨p36, ns36, hq36, hP⟩ := bnd2 hP
  refine SPL_one rfl (SP1_call (hr.chain (by assumption) (by assumption) hq36) Tryz.call71 rfl rfl (by repeat (first | exact Part.nil _ | (apply Part.cons; (first | exact P0 | exact P1 | exact P2 | exact P3 | exact P4 | exact P5 | exact P6 | exact P7 | exact P8 | exact P9 | exact P10 | exact P11 | exact P12 | exact P13 | exact P14 | exact P15 | exact P16 | exact P17 | exact P18 | exact P19 | exact P20 | exact P21 | exact P22 | exact P23)) | (apply Part.flat; simp only [List.cons_append, List.nil_append]) | (apply Part.nilc))) ?_)
  rintro v post H' ⟨rfl, s36, hs36, rfl⟩ hH
  try simp only [List.cons_append, List.nil_append] at hH
  subst hH
  refine SPL_y (y_fa fld_158_2 rfl) rfl ?_
  refine SPL_one rfl (SP1_store Tryz.sizeOf3 rfl rfl rfl (by first | exact U0 | exact U1 | exact U2 | exact U3 | exact U4 | exact U5 | exact U6 | exact U7 | exact U8 | exact U9 | exact U10 | exact U11 | exact U12 | exact U13 | exact U14 | exact U15 | exact U16 | exact U17 | exact U18 | exact U19 | exact U20 | exact U21 | exact U22 | exact U23) (by rfl) ?_)
  refine SPL_nil ?_
  refine inBlockP_n ?_
  refine thenP_n ?_
  refine SP_seq ?_
  refine SP_region ?_
  refine SPL_y (y_move rfl) rfl ?_
  refine SPL_y (y_loads Tryz.isAgg158 Tryz.sizeOf158 rfl rfl (by repeat (first | exact Cells.all _ | exact Cells.amid hpre rfl (by decide) | exact Cells.head rfl | apply Cells.tail))) rfl ?_
  refine SPL_one rfl (SP1_call (fl_add y (by assumption) hP) Tryz.call247 rfl rfl (by repeat (first | exact Part.nil _ | (apply Part.cons; (first | exact P0 | exact P1 | exact P2 | exact P3 | exact P4 | exact P5 | exact P6 | exact P7 | exact P8 | exact P9 | exact P10 | exact P11 | exact P12 | exact P13 | exact P14 | exact P15 | exact P16 | exact P17 | exact P18 | exact P19 | exact P20 | exact P21 | exact P22 | exact P23)) | (apply Part.flat; simp only [List.cons_append, List.nil_append]) | (apply Part.nilc))) ?_)
  rintro v post H' ⟨rfl, s57, hs57, rfl⟩ hH
  try simp only [List.cons_append, List.nil_append] at hH
  subst hH
  refine SPL_y (y_assign rfl) rfl ?_
  refine SPL_nil ?_
  refine thenP_n ?_
  refine SP_ret ?_
  refine bodyP_ret (H' := [s57, List.flatten [blk b 297 [I a, vx, .slice al ml cl], sx, sl]]) (Res1 rfl rfl) (by repeat (first | exact Part.nil _ | (apply Part.cons; (first | exact P0 | exact P1 | exact P2 | exact P3 | exact P4 | exact P5 | exact P6 | exact P7 | exact P8 | exact P9 | exact P10 | exact P11 | exact P12 | exact P13 | exact P14 | exact P15 | exact P16 | exact P17 | exact P18 | exact P19 | exact P20 | exact P21 | exact P22 | exact P23)) | (apply Part.flat; simp only [List.cons_append, List.nil_append]) | (apply Part.nilc))) ?_
  exact ⟨rfl, s57, hs57, rfl⟩

set_option maxHeartbeats 400000 in
theorem fl_ret (y : SX) (fc : RecF) (hr : RecFOk y fc) {a : Int} {x k : T} {b : Nat} {vx : Value} {sx : Seg} (hx : IsN x vx sx) {vk : Value} {sk : Seg} (hk : IsN k vk sk) {ns ns' : List Nd} {r : Int} {s : Seg} (hs : isNs y ns s) (hP : stmtF fc (.ret a x k) ns = some (r, ns')) : Spec Tryz.prog 194 [pt y.b, .iface 233 (pt b)] [s, List.flatten [blk b 382 [I a, vx, vk], sx, sk]] (Ret (fkOk y r ns' (List.flatten [blk b 382 [I a, vx, vk], sx, sk]))) := by
  unfold stmtF at hP
  dsimp only at hP
  refine Spec_openAt [blk b 382 [I a, vx, vk], sx, sk] (by first | exact P0 | exact P1 | exact P2 | exact P3 | exact P4 | exact P5 | exact P6 | exact P7 | exact P8 | exact P9 | exact P10 | exact P11 | exact P12 | exact P13 | exact P14 | exact P15 | exact P16 | exact P17 | exact P18 | exact P19 | exact P20 | exact P21 | exact P22 | exact P23) ?_
  simp only [List.cons_append, List.nil_append]
  refine Spec_enter Tryz.func194 rfl Tryz.ntmps194 rfl ?_
  show SP _ _ _ _ _ [(0, _), (1, _)] _
  refine SP_seq ?_
  refine SP_region ?_
  refine SPL_y (y_assign rfl) rfl ?_
  refine SPL_nil ?_
  refine thenP_n ?_
  refine SP_seq ?_
  refine SP_region ?_
  refine SPL_y (y_move rfl) rfl ?_
  refine SPL_one rfl (SP1_invoke (rv := pt b) (args := []) rfl (posM233 _) pos233 rfl rfl (by repeat (first | exact Part.nil _ | (apply Part.cons; (first | exact P0 | exact P1 | exact P2 | exact P3 | exact P4 | exact P5 | exact P6 | exact P7 | exact P8 | exact P9 | exact P10 | exact P11 | exact P12 | exact P13 | exact P14 | exact P15 | exact P16 | exact P17 | exact P18 | exact P19 | exact P20 | exact P21 | exact P22 | exact P23)) | (apply Part.flat; simp only [List.cons_append, List.nil_append]) | (apply Part.nilc))) ?_)
  rintro v post H' ⟨rfl, rfl⟩ hH
  try simp only [List.cons_append, List.nil_append] at hH
  subst hH
  refine SPL_y (y_build B158 rfl rfl (by simp only [fillL, List.foldl_cons, List.foldl_nil, List.set_cons_zero, List.set_cons_succ]; exact rfl)) rfl ?_
  refine SPL_one rfl (SP1_alloc Tryz.zeroValue158 rfl rfl ?_)
  intro b5
  refine SPL_one rfl (SP1_storeAll Tryz.sizeOf158 rfl rfl rfl rfl rfl (by first | exact U0 | exact U1 | exact U2 | exact U3 | exact U4 | exact U5 | exact U6 | exact U7 | exact U8 | exact U9 | exact U10 | exact U11 | exact U12 | exact U13 | exact U14 | exact U15 | exact U16 | exact U17 | exact U18 | exact U19 | exact U20 | exact U21 | exact U22 | exact U23) (by rfl) ?_)
  refine SPL_nil ?_
  refine thenP_n ?_
  refine SP_seq ?_
  refine SP_seq ?_
  refine SP_region ?_
  refine SPL_y (y_move rfl) rfl ?_
  refine SPL_nil ?_
  refine thenP_n ?_
  refine SP_block ?_
  refine SP_seq ?_
  refine SP_region ?_
  refine SPL_y (y_assertNo Tryz.underlying363 rfl Tryz.zeroValue363 rfl rfl) rfl ?_
  refine SPL_y (y_ext rfl rfl) rfl ?_
  refine SPL_y (y_ext rfl rfl) rfl ?_
  refine SPL_nil ?_
  refine thenP_n ?_
  refine SP_cond_f rfl ?_
  refine SP_seq ?_
  refine SP_region ?_
  refine SPL_y (y_assertNo Tryz.underlying359 rfl Tryz.zeroValue359 rfl rfl) rfl ?_
  refine SPL_y (y_ext rfl rfl) rfl ?_
  refine SPL_y (y_ext rfl rfl) rfl ?_
  refine SPL_nil ?_
  refine thenP_n ?_
  refine SP_cond_f rfl ?_
  refine SP_seq ?_
  refine SP_region ?_
  refine SPL_y (y_assertNo Tryz.underlying309 rfl Tryz.zeroValue309 rfl rfl) rfl ?_
  refine SPL_y (y_ext rfl rfl) rfl ?_
  refine SPL_y (y_ext rfl rfl) rfl ?_
  refine SPL_nil ?_
  refine thenP_n ?_
  refine SP_cond_f rfl ?_
  refine SP_seq ?_
  refine SP_region ?_
  refine SPL_y (y_assertNo Tryz.underlying304 rfl Tryz.zeroValue304 rfl rfl) rfl ?_
  refine SPL_y (y_ext rfl rfl) rfl ?_
  refine SPL_y (y_ext rfl rfl) rfl ?_
  refine SPL_nil ?_
  refine thenP_n ?_
  refine SP_cond_f rfl ?_
  refine SP_seq ?_
  refine SP_region ?_
  refine SPL_y (y_assertNo Tryz.underlying366 rfl Tryz.zeroValue366 rfl rfl) rfl ?_
  refine SPL_y (y_ext rfl rfl) rfl ?_
  refine SPL_y (y_ext rfl rfl) rfl ?_
  refine SPL_nil ?_
  refine thenP_n ?_
  refine SP_cond_f rfl ?_
  refine SP_seq ?_
  refine SP_region ?_
  refine SPL_y (y_assertNo Tryz.underlying295 rfl Tryz.zeroValue295 rfl rfl) rfl ?_
  refine SPL_y (y_ext rfl rfl) rfl ?_
  refine SPL_y (y_ext rfl rfl) rfl ?_
  refine SPL_nil ?_
  refine thenP_n ?_
  refine SP_cond_f rfl ?_
  refine SP_seq ?_
  refine SP_region ?_
  refine SPL_y (y_assertNo Tryz.underlying372 rfl Tryz.zeroValue372 rfl rfl) rfl ?_
  refine SPL_y (y_ext rfl rfl) rfl ?_
  refine SPL_y (y_ext rfl rfl) rfl ?_
  refine SPL_nil ?_
  refine thenP_n ?_
  refine SP_cond_f rfl ?_
  refine SP_seq ?_
  refine SP_region ?_
  refine SPL_y (y_assertNo Tryz.underlying369 rfl Tryz.zeroValue369 rfl rfl) rfl ?_
  refine SPL_y (y_ext rfl rfl) rfl ?_
  refine SPL_y (y_ext rfl rfl) rfl ?_
  refine SPL_nil ?_
  refine thenP_n ?_
  refine SP_cond_f rfl ?_
  refine SP_seq ?_
  refine SP_region ?_
  refine SPL_y (y_assertOk Tryz.underlying233 rfl rfl) rfl ?_
  refine SPL_y (y_ext rfl rfl) rfl ?_
  refine SPL_y (y_ext rfl rfl) rfl ?_
  refine SPL_nil ?_
  refine thenP_n ?_
  refine SP_cond_t rfl ?_
  refine SP_seq ?_
  refine SP_region ?_
  refine SPL_y (y_assign rfl) rfl ?_
  refine SPL_nil ?_
  refine thenP_n ?_
  refine SP_seq ?_
  refine SP_region ?_
  refine SPL_y (y_fa fld_158_0 rfl) rfl ?_
  refine SPL_one rfl (SP1_store Tryz.sizeOf3 rfl rfl rfl (by first | exact U0 | exact U1 | exact U2 | exact U3 | exact U4 | exact U5 | exact U6 | exact U7 | exact U8 | exact U9 | exact U10 | exact U11 | exact U12 | exact U13 | exact U14 | exact U15 | exact U16 | exact U17 | exact U18 | exact U19 | exact U20 | exact U21 | exact U22 | exact U23) (by rfl) ?_)
  refine SPL_nil ?_
  refine thenP_n ?_
  refine SP_seq ?_
  refine SP_region ?_
  refine SPL_y (y_move rfl) rfl ?_
  refine SPL_y (y_move rfl) rfl ?_
  refine SPL_y (y_nil rfl) rfl ?_
  refine SPL_y (y_fa fld_382_1 rfl) rfl ?_
  refine SPL_y (y_load Tryz.isAgg292 rfl (by repeat (first | exact Cell.amid hpre rfl | exact Cell.head rfl | apply Cell.tail))) rfl ?_
  obtain ⟨p52, ns52, hq52, hP⟩ := bnd2 hP
  refine SPL_one rfl (SP1_call (fl_opt y fc hr (by assumption) (by assumption) hq52) Tryz.call246 rfl rfl (by repeat (first | exact Part.nil _ | (apply Part.cons; (first | exact P0 | exact P1 | exact P2 | exact P3 | exact P4 | exact P5 | exact P6 | exact P7 | exact P8 | exact P9 | exact P10 | exact P11 | exact P12 | exact P13 | exact P14 | exact P15 | exact P16 | exact P17 | exact P18 | exact P19 | exact P20 | exact P21 | exact P22 | exact P23)) | (apply Part.flat; simp only [List.cons_append, List.nil_append]) | (apply Part.nilc))) ?_)
  rintro v post H' ⟨rfl, s52, hs52, rfl⟩ hH
  try simp only [List.cons_append, List.nil_append] at hH
  subst hH
  refine SPL_y (y_fa fld_158_1 rfl) rfl ?_
  refine SPL_one rfl (SP1_store Tryz.sizeOf3 rfl rfl rfl (by first | exact U0 | exact U1 | exact U2 | exact U3 | exact U4 | exact U5 | exact U6 | exact U7 | exact U8 | exact U9 | exact U10 | exact U11 | exact U12 | exact U13 | exact U14 | exact U15 | exact U16 | exact U17 | exact U18 | exact U19 | exact U20 | exact U21 | exact U22 | exact U23) (by rfl) ?_)
  refine SPL_nil ?_
  refine thenP_n ?_
  refine SP_region ?_
  refine SPL_y (y_move rfl) rfl ?_
  refine SPL_y (y_move rfl) rfl ?_
  refine SPL_y (y_nil rfl) rfl ?_
  refine SPL_y (y_fa fld_382_2 rfl) rfl ?_
  refine SPL_y (y_load Tryz.isAgg292 rfl (by repeat (first | exact Cell.amid hpre rfl | exact Cell.head rfl | apply Cell.tail))) rfl ?_
  obtain ⟨p53, ns53, hq53, hP⟩ := bnd2 hP
  refine SPL_one rfl (SP1_call (fl_opt y fc hr (by assumption) (by assumption) hq53) Tryz.call246 rfl rfl (by repeat (first | exact Part.nil _ | (apply Part.cons; (first | exact P0 | exact P1 | exact P2 | exact P3 | exact P4 | exact P5 | exact P6 | exact P7 | exact P8 | exact P9 | exact P10 | exact P11 | exact P12 | exact P13 | exact P14 | exact P15 | exact P16 | exact P17 | exact P18 | exact P19 | exact P20 | exact P21 | exact P22 | exact P23)) | (apply Part.flat; simp only [List.cons_append, List.nil_append]) | (apply Part.nilc))) ?_)
  rintro v post H' ⟨rfl, s53, hs53, rfl⟩ hH
  try simp only [List.cons_append, List.nil_append] at hH
  subst hH
  refine SPL_y (y_fa fld_158_2 rfl) rfl ?_
  refine SPL_one rfl (SP1_store Tryz.sizeOf3 rfl rfl rfl (by first | exact U0 | exact U1 | exact U2 | exact U3 | exact U4 | exact U5 | exact U6 | exact U7 | exact U8 | exact U9 | exact U10 | exact U11 | exact U12 | exact U13 | exact U14 | exact U15 | exact U16 | exact U17 | exact U18 | exact U19 | exact U20 | exact U21 | exact U22 | exact U23) (by rfl) ?_)
  refine SPL_nil ?_
  refine inBlockP_n ?_
  refine thenP_n ?_
  refine SP_seq ?_
  refine SP_region ?_
  refine SPL_y (y_move rfl) rfl ?_
  refine SPL_y (y_loads Tryz.isAgg158 Tryz.sizeOf158 rfl rfl (by repeat (first | exact Cells.all _ | exact Cells.amid hpre rfl (by decide) | exact Cells.head rfl | apply Cells.tail))) rfl ?_
  refine SPL_one rfl (SP1_call (fl_add y (by assumption) hP) Tryz.call247 rfl rfl (by repeat (first | exact Part.nil _ | (apply Part.cons; (first | exact P0 | exact P1 | exact P2 | exact P3 | exact P4 | exact P5 | exact P6 | exact P7 | exact P8 | exact P9 | exact P10 | exact P11 | exact P12 | exact P13 | exact P14 | exact P15 | exact P16 | exact P17 | exact P18 | exact P19 | exact P20 | exact P21 | exact P22 | exact P23)) | (apply Part.flat; simp only [List.cons_append, List.nil_append]) | (apply Part.nilc))) ?_)
  rintro v post H' ⟨rfl, s57, hs57, rfl⟩ hH
  try simp only [List.cons_append, List.nil_append] at hH
  subst hH
  refine SPL_y (y_assign rfl) rfl ?_
  refine SPL_nil ?_
  refine thenP_n ?_
  refine SP_ret ?_
  refine bodyP_ret (H' := [s57, List.flatten [blk b 382 [I a, vx, vk], sx, sk]]) (Res1 rfl rfl) (by repeat (first | exact Part.nil _ | (apply Part.cons; (first | exact P0 | exact P1 | exact P2 | exact P3 | exact P4 | exact P5 | exact P6 | exact P7 | exact P8 | exact P9 | exact P10 | exact P11 | exact P12 | exact P13 | exact P14 | exact P15 | exact P16 | exact P17 | exact P18 | exact P19 | exact P20 | exact P21 | exact P22 | exact P23)) | (apply Part.flat; simp only [List.cons_append, List.nil_append]) | (apply Part.nilc))) ?_
  exact ⟨rfl, s57, hs57, rfl⟩

set_option maxHeartbeats 400000 in
theorem fl_brk (y : SX) (fc : RecF) (hr : RecFOk y fc) {a : Int} {b : Nat}  {ns ns' : List Nd} {r : Int} {s : Seg} (hs : isNs y ns s) (hP : stmtF fc (.brk a) ns = some (r, ns')) : Spec Tryz.prog 194 [pt y.b, .iface 234 (pt b)] [s, blk b 299 [I a]] (Ret (fkOk y r ns' (blk b 299 [I a]))) := by
  unfold stmtF at hP
  dsimp only at hP
  refine Spec_enter Tryz.func194 rfl Tryz.ntmps194 rfl ?_
  show SP _ _ _ _ _ [(0, _), (1, _)] _
  refine SP_seq ?_
  refine SP_region ?_
  refine SPL_y (y_assign rfl) rfl ?_
  refine SPL_nil ?_
  refine thenP_n ?_
  refine SP_seq ?_
  refine SP_region ?_
  refine SPL_y (y_move rfl) rfl ?_
  refine SPL_one rfl (SP1_invoke (rv := pt b) (args := []) rfl (posM234 _) pos234 rfl rfl (by repeat (first | exact Part.nil _ | (apply Part.cons; (first | exact P0 | exact P1 | exact P2 | exact P3 | exact P4 | exact P5 | exact P6 | exact P7 | exact P8 | exact P9 | exact P10 | exact P11 | exact P12 | exact P13 | exact P14 | exact P15 | exact P16 | exact P17 | exact P18 | exact P19 | exact P20 | exact P21 | exact P22 | exact P23)) | (apply Part.flat; simp only [List.cons_append, List.nil_append]) | (apply Part.nilc))) ?_)
  rintro v post H' ⟨rfl, rfl⟩ hH
  try simp only [List.cons_append, List.nil_append] at hH
  subst hH
  refine SPL_y (y_build B158 rfl rfl (by simp only [fillL, List.foldl_cons, List.foldl_nil, List.set_cons_zero, List.set_cons_succ]; exact rfl)) rfl ?_
  refine SPL_one rfl (SP1_alloc Tryz.zeroValue158 rfl rfl ?_)
  intro b5
  refine SPL_one rfl (SP1_storeAll Tryz.sizeOf158 rfl rfl rfl rfl rfl (by first | exact U0 | exact U1 | exact U2 | exact U3 | exact U4 | exact U5 | exact U6 | exact U7 | exact U8 | exact U9 | exact U10 | exact U11 | exact U12 | exact U13 | exact U14 | exact U15 | exact U16 | exact U17 | exact U18 | exact U19 | exact U20 | exact U21 | exact U22 | exact U23) (by rfl) ?_)
  refine SPL_nil ?_
  refine thenP_n ?_
  refine SP_seq ?_
  refine SP_seq ?_
  refine SP_region ?_
  refine SPL_y (y_move rfl) rfl ?_
  refine SPL_nil ?_
  refine thenP_n ?_
  refine SP_block ?_
  refine SP_seq ?_
  refine SP_region ?_
  refine SPL_y (y_assertNo Tryz.underlying363 rfl Tryz.zeroValue363 rfl rfl) rfl ?_
  refine SPL_y (y_ext rfl rfl) rfl ?_
  refine SPL_y (y_ext rfl rfl) rfl ?_
  refine SPL_nil ?_
  refine thenP_n ?_
  refine SP_cond_f rfl ?_
  refine SP_seq ?_
  refine SP_region ?_
  refine SPL_y (y_assertNo Tryz.underlying359 rfl Tryz.zeroValue359 rfl rfl) rfl ?_
  refine SPL_y (y_ext rfl rfl) rfl ?_
  refine SPL_y (y_ext rfl rfl) rfl ?_
  refine SPL_nil ?_
  refine thenP_n ?_
  refine SP_cond_f rfl ?_
  refine SP_seq ?_
  refine SP_region ?_
  refine SPL_y (y_assertNo Tryz.underlying309 rfl Tryz.zeroValue309 rfl rfl) rfl ?_
  refine SPL_y (y_ext rfl rfl) rfl ?_
  refine SPL_y (y_ext rfl rfl) rfl ?_
  refine SPL_nil ?_
  refine thenP_n ?_
  refine SP_cond_f rfl ?_
  refine SP_seq ?_
  refine SP_region ?_
  refine SPL_y (y_assertNo Tryz.underlying304 rfl Tryz.zeroValue304 rfl rfl) rfl ?_
  refine SPL_y (y_ext rfl rfl) rfl ?_
  refine SPL_y (y_ext rfl rfl) rfl ?_
  refine SPL_nil ?_
  refine thenP_n ?_
  refine SP_cond_f rfl ?_
  refine SP_seq ?_
  refine SP_region ?_
  refine SPL_y (y_assertNo Tryz.underlying366 rfl Tryz.zeroValue366 rfl rfl) rfl ?_
  refine SPL_y (y_ext rfl rfl) rfl ?_
  refine SPL_y (y_ext rfl rfl) rfl ?_
  refine SPL_nil ?_
  refine thenP_n ?_
  refine SP_cond_f rfl ?_
  refine SP_seq ?_
  refine SP_region ?_
  refine SPL_y (y_assertNo Tryz.underlying295 rfl Tryz.zeroValue295 rfl rfl) rfl ?_
  refine SPL_y (y_ext rfl rfl) rfl ?_
  refine SPL_y (y_ext rfl rfl) rfl ?_
  refine SPL_nil ?_
  refine thenP_n ?_
  refine SP_cond_f rfl ?_
  refine SP_seq ?_
  refine SP_region ?_
  refine SPL_y (y_assertNo Tryz.underlying372 rfl Tryz.zeroValue372 rfl rfl) rfl ?_
  refine SPL_y (y_ext rfl rfl) rfl ?_
  refine SPL_y (y_ext rfl rfl) rfl ?_
  refine SPL_nil ?_
  refine thenP_n ?_
  refine SP_cond_f rfl ?_
  refine SP_seq ?_
  refine SP_region ?_
  refine SPL_y (y_assertNo Tryz.underlying369 rfl Tryz.zeroValue369 rfl rfl) rfl ?_
  refine SPL_y (y_ext rfl rfl) rfl ?_
  refine SPL_y (y_ext rfl rfl) rfl ?_
  refine SPL_nil ?_
  refine thenP_n ?_
  refine SP_cond_f rfl ?_
  refine SP_seq ?_
  refine SP_region ?_
  refine SPL_y (y_assertNo Tryz.underlying233 rfl Tryz.zeroValue233 rfl rfl) rfl ?_
  refine SPL_y (y_ext rfl rfl) rfl ?_
  refine SPL_y (y_ext rfl rfl) rfl ?_
  refine SPL_nil ?_
  refine thenP_n ?_
  refine SP_cond_f rfl ?_
  refine SP_seq ?_
  refine SP_region ?_
  refine SPL_y (y_assertOk Tryz.underlying234 rfl rfl) rfl ?_
  refine SPL_y (y_ext rfl rfl) rfl ?_
  refine SPL_y (y_ext rfl rfl) rfl ?_
  refine SPL_nil ?_
  refine thenP_n ?_
  refine SP_cond_t rfl ?_
  refine SP_seq ?_
  refine SP_region ?_
  refine SPL_y (y_assign rfl) rfl ?_
  refine SPL_nil ?_
  refine thenP_n ?_
  refine SP_region ?_
  refine SPL_y (y_fa fld_158_0 rfl) rfl ?_
  refine SPL_one rfl (SP1_store Tryz.sizeOf3 rfl rfl rfl (by first | exact U0 | exact U1 | exact U2 | exact U3 | exact U4 | exact U5 | exact U6 | exact U7 | exact U8 | exact U9 | exact U10 | exact U11 | exact U12 | exact U13 | exact U14 | exact U15 | exact U16 | exact U17 | exact U18 | exact U19 | exact U20 | exact U21 | exact U22 | exact U23) (by rfl) ?_)
  refine SPL_nil ?_
  refine inBlockP_n ?_
  refine thenP_n ?_
  refine SP_seq ?_
  refine SP_region ?_
  refine SPL_y (y_move rfl) rfl ?_
  refine SPL_y (y_loads Tryz.isAgg158 Tryz.sizeOf158 rfl rfl (by repeat (first | exact Cells.all _ | exact Cells.amid hpre rfl (by decide) | exact Cells.head rfl | apply Cells.tail))) rfl ?_
  refine SPL_one rfl (SP1_call (fl_add y (by assumption) hP) Tryz.call247 rfl rfl (by repeat (first | exact Part.nil _ | (apply Part.cons; (first | exact P0 | exact P1 | exact P2 | exact P3 | exact P4 | exact P5 | exact P6 | exact P7 | exact P8 | exact P9 | exact P10 | exact P11 | exact P12 | exact P13 | exact P14 | exact P15 | exact P16 | exact P17 | exact P18 | exact P19 | exact P20 | exact P21 | exact P22 | exact P23)) | (apply Part.flat; simp only [List.cons_append, List.nil_append]) | (apply Part.nilc))) ?_)
  rintro v post H' ⟨rfl, s57, hs57, rfl⟩ hH
  try simp only [List.cons_append, List.nil_append] at hH
  subst hH
  refine SPL_y (y_assign rfl) rfl ?_
  refine SPL_nil ?_
  refine thenP_n ?_
  refine SP_ret ?_
  refine bodyP_ret (H' := [s57, blk b 299 [I a]]) (Res1 rfl rfl) (by repeat (first | exact Part.nil _ | (apply Part.cons; (first | exact P0 | exact P1 | exact P2 | exact P3 | exact P4 | exact P5 | exact P6 | exact P7 | exact P8 | exact P9 | exact P10 | exact P11 | exact P12 | exact P13 | exact P14 | exact P15 | exact P16 | exact P17 | exact P18 | exact P19 | exact P20 | exact P21 | exact P22 | exact P23)) | (apply Part.flat; simp only [List.cons_append, List.nil_append]) | (apply Part.nilc))) ?_
  exact ⟨rfl, s57, hs57, rfl⟩

set_option maxHeartbeats 400000 in
theorem fl_locFn (y : SX) (fc : RecF) (hr : RecFOk y fc) {a : Int} {q : List UInt8} {f : T} {b1 b2 : Nat} {sf : Seg} {b : Nat} (hf : IsN f (.iface 355 (pt b2)) sf) {ns ns' : List Nd} {r : Int} {s : Seg} (hs : isNs y ns s) (hP : stmtF fc (.locFn a q f) ns = some (r, ns')) : Spec Tryz.prog 194 [pt y.b, .iface 359 (pt b)] [s, List.flatten [blk b 361 [pt b1, pt b2], blk b1 358 [I a, S q], sf]] (Ret (fkOk y r ns' (List.flatten [blk b 361 [pt b1, pt b2], blk b1 358 [I a, S q], sf]))) := by
  unfold stmtF at hP
  dsimp only at hP
  refine Spec_openAt [blk b 361 [pt b1, pt b2], blk b1 358 [I a, S q], sf] (by first | exact P0 | exact P1 | exact P2 | exact P3 | exact P4 | exact P5 | exact P6 | exact P7 | exact P8 | exact P9 | exact P10 | exact P11 | exact P12 | exact P13 | exact P14 | exact P15 | exact P16 | exact P17 | exact P18 | exact P19 | exact P20 | exact P21 | exact P22 | exact P23) ?_
  simp only [List.cons_append, List.nil_append]
  refine Spec_enter Tryz.func194 rfl Tryz.ntmps194 rfl ?_
  show SP _ _ _ _ _ [(0, _), (1, _)] _
  refine SP_seq ?_
  refine SP_region ?_
  refine SPL_y (y_assign rfl) rfl ?_
  refine SPL_nil ?_
  refine thenP_n ?_
  refine SP_seq ?_
  refine SP_region ?_
  refine SPL_y (y_move rfl) rfl ?_
  refine SPL_one rfl (SP1_invoke (rv := pt b) (args := []) rfl (posM359 _) pos359 rfl rfl (by repeat (first | exact Part.nil _ | (apply Part.cons; (first | exact P0 | exact P1 | exact P2 | exact P3 | exact P4 | exact P5 | exact P6 | exact P7 | exact P8 | exact P9 | exact P10 | exact P11 | exact P12 | exact P13 | exact P14 | exact P15 | exact P16 | exact P17 | exact P18 | exact P19 | exact P20 | exact P21 | exact P22 | exact P23)) | (apply Part.flat; simp only [List.cons_append, List.nil_append]) | (apply Part.nilc))) ?_)
  rintro v post H' ⟨rfl, rfl⟩ hH
  try simp only [List.cons_append, List.nil_append] at hH
  subst hH
  refine SPL_y (y_build B158 rfl rfl (by simp only [fillL, List.foldl_cons, List.foldl_nil, List.set_cons_zero, List.set_cons_succ]; exact rfl)) rfl ?_
  refine SPL_one rfl (SP1_alloc Tryz.zeroValue158 rfl rfl ?_)
  intro b5
  refine SPL_one rfl (SP1_storeAll Tryz.sizeOf158 rfl rfl rfl rfl rfl (by first | exact U0 | exact U1 | exact U2 | exact U3 | exact U4 | exact U5 | exact U6 | exact U7 | exact U8 | exact U9 | exact U10 | exact U11 | exact U12 | exact U13 | exact U14 | exact U15 | exact U16 | exact U17 | exact U18 | exact U19 | exact U20 | exact U21 | exact U22 | exact U23) (by rfl) ?_)
  refine SPL_nil ?_
  refine thenP_n ?_
  refine SP_seq ?_
  refine SP_seq ?_
  refine SP_region ?_
  refine SPL_y (y_move rfl) rfl ?_
  refine SPL_nil ?_
  refine thenP_n ?_
  refine SP_block ?_
  refine SP_seq ?_
  refine SP_region ?_
  refine SPL_y (y_assertNo Tryz.underlying363 rfl Tryz.zeroValue363 rfl rfl) rfl ?_
  refine SPL_y (y_ext rfl rfl) rfl ?_
  refine SPL_y (y_ext rfl rfl) rfl ?_
  refine SPL_nil ?_
  refine thenP_n ?_
  refine SP_cond_f rfl ?_
  refine SP_seq ?_
  refine SP_region ?_
  refine SPL_y (y_assertOk Tryz.underlying359 rfl rfl) rfl ?_
  refine SPL_y (y_ext rfl rfl) rfl ?_
  refine SPL_y (y_ext rfl rfl) rfl ?_
  refine SPL_nil ?_
  refine thenP_n ?_
  refine SP_cond_t rfl ?_
  refine SP_seq ?_
  refine SP_region ?_
  refine SPL_y (y_assign rfl) rfl ?_
  refine SPL_nil ?_
  refine thenP_n ?_
  refine SP_seq ?_
  refine SP_region ?_
  refine SPL_y (y_fa fld_158_0 rfl) rfl ?_
  refine SPL_one rfl (SP1_store Tryz.sizeOf3 rfl rfl rfl (by first | exact U0 | exact U1 | exact U2 | exact U3 | exact U4 | exact U5 | exact U6 | exact U7 | exact U8 | exact U9 | exact U10 | exact U11 | exact U12 | exact U13 | exact U14 | exact U15 | exact U16 | exact U17 | exact U18 | exact U19 | exact U20 | exact U21 | exact U22 | exact U23) (by rfl) ?_)
  refine SPL_nil ?_
  refine thenP_n ?_
  refine SP_seq ?_
  refine SP_region ?_
  refine SPL_y (y_move rfl) rfl ?_
  refine SPL_y (y_nil rfl) rfl ?_
  refine SPL_y (y_fa fld_361_0 rfl) rfl ?_
  refine SPL_y (y_load Tryz.isAgg307 rfl (by repeat (first | exact Cell.amid hpre rfl | exact Cell.head rfl | apply Cell.tail))) rfl ?_
  refine SPL_y (y_nil rfl) rfl ?_
  refine SPL_y (y_fa fld_358_1 rfl) rfl ?_
  refine SPL_y (y_load Tryz.isAgg9 rfl (by repeat (first | exact Cell.amid hpre rfl | exact Cell.head rfl | apply Cell.tail))) rfl ?_
  refine SPL_y (y_fa fld_158_6 rfl) rfl ?_
  refine SPL_one rfl (SP1_store Tryz.sizeOf9 rfl rfl rfl (by first | exact U0 | exact U1 | exact U2 | exact U3 | exact U4 | exact U5 | exact U6 | exact U7 | exact U8 | exact U9 | exact U10 | exact U11 | exact U12 | exact U13 | exact U14 | exact U15 | exact U16 | exact U17 | exact U18 | exact U19 | exact U20 | exact U21 | exact U22 | exact U23) (by rfl) ?_)
  refine SPL_nil ?_
  refine thenP_n ?_
  refine SP_region ?_
  refine SPL_y (y_move rfl) rfl ?_
  refine SPL_y (y_move rfl) rfl ?_
  refine SPL_y (y_nil rfl) rfl ?_
  refine SPL_y (y_fa fld_361_1 rfl) rfl ?_
  refine SPL_y (y_load Tryz.isAgg355 rfl (by repeat (first | exact Cell.amid hpre rfl | exact Cell.head rfl | apply Cell.tail))) rfl ?_
  refine SPL_y (y_mki Tryz.underlying355 rfl rfl) rfl ?_
  obtain ⟨p16, ns16, hq16, hP⟩ := bnd2 hP
  refine SPL_one rfl (SP1_call (hr.expr (by assumption) (by assumption) hq16) Tryz.call195 rfl rfl (by repeat (first | exact Part.nil _ | (apply Part.cons; (first | exact P0 | exact P1 | exact P2 | exact P3 | exact P4 | exact P5 | exact P6 | exact P7 | exact P8 | exact P9 | exact P10 | exact P11 | exact P12 | exact P13 | exact P14 | exact P15 | exact P16 | exact P17 | exact P18 | exact P19 | exact P20 | exact P21 | exact P22 | exact P23)) | (apply Part.flat; simp only [List.cons_append, List.nil_append]) | (apply Part.nilc))) ?_)
  rintro v post H' ⟨rfl, s16, hs16, rfl⟩ hH
  try simp only [List.cons_append, List.nil_append] at hH
  subst hH
  refine SPL_y (y_fa fld_158_1 rfl) rfl ?_
  refine SPL_one rfl (SP1_store Tryz.sizeOf3 rfl rfl rfl (by first | exact U0 | exact U1 | exact U2 | exact U3 | exact U4 | exact U5 | exact U6 | exact U7 | exact U8 | exact U9 | exact U10 | exact U11 | exact U12 | exact U13 | exact U14 | exact U15 | exact U16 | exact U17 | exact U18 | exact U19 | exact U20 | exact U21 | exact U22 | exact U23) (by rfl) ?_)
  refine SPL_nil ?_
  refine inBlockP_n ?_
  refine thenP_n ?_
  refine SP_seq ?_
  refine SP_region ?_
  refine SPL_y (y_move rfl) rfl ?_
  refine SPL_y (y_loads Tryz.isAgg158 Tryz.sizeOf158 rfl rfl (by repeat (first | exact Cells.all _ | exact Cells.amid hpre rfl (by decide) | exact Cells.head rfl | apply Cells.tail))) rfl ?_
  refine SPL_one rfl (SP1_call (fl_add y (by assumption) hP) Tryz.call247 rfl rfl (by repeat (first | exact Part.nil _ | (apply Part.cons; (first | exact P0 | exact P1 | exact P2 | exact P3 | exact P4 | exact P5 | exact P6 | exact P7 | exact P8 | exact P9 | exact P10 | exact P11 | exact P12 | exact P13 | exact P14 | exact P15 | exact P16 | exact P17 | exact P18 | exact P19 | exact P20 | exact P21 | exact P22 | exact P23)) | (apply Part.flat; simp only [List.cons_append, List.nil_append]) | (apply Part.nilc))) ?_)
  rintro v post H' ⟨rfl, s57, hs57, rfl⟩ hH
  try simp only [List.cons_append, List.nil_append] at hH
  subst hH
  refine SPL_y (y_assign rfl) rfl ?_
  refine SPL_nil ?_
  refine thenP_n ?_
  refine SP_ret ?_
  refine bodyP_ret (H' := [s57, List.flatten [blk b 361 [pt b1, pt b2], blk b1 358 [I a, S q], sf]]) (Res1 rfl rfl) (by repeat (first | exact Part.nil _ | (apply Part.cons; (first | exact P0 | exact P1 | exact P2 | exact P3 | exact P4 | exact P5 | exact P6 | exact P7 | exact P8 | exact P9 | exact P10 | exact P11 | exact P12 | exact P13 | exact P14 | exact P15 | exact P16 | exact P17 | exact P18 | exact P19 | exact P20 | exact P21 | exact P22 | exact P23)) | (apply Part.flat; simp only [List.cons_append, List.nil_append]) | (apply Part.nilc))) ?_
  exact ⟨rfl, s57, hs57, rfl⟩

set_option maxHeartbeats 400000 in
theorem fl_forN (y : SX) (fc : RecF) (hr : RecFOk y fc) {a : Int} {q : List UInt8} {l d : List T} {b1 : Nat} {b : Nat} {ml cl : Nat} {al : Option Addr} {sl : Seg} (hl : IsL l al ml cl sl) {md cd : Nat} {ad : Option Addr} {sd : Seg} (hd : IsL d ad md cd sd) {ns ns' : List Nd} {r : Int} {s : Seg} (hs : isNs y ns s) (hP : stmtF fc (.forN a q l d) ns = some (r, ns')) : Spec Tryz.prog 194 [pt y.b, .iface 372 (pt b)] [s, List.flatten [blk b 374 [pt b1, .slice al ml cl, .slice ad md cd], blk b1 358 [I a, S q], sl, sd]] (Ret (fkOk y r ns' (List.flatten [blk b 374 [pt b1, .slice al ml cl, .slice ad md cd], blk b1 358 [I a, S q], sl, sd]))) := by
  unfold stmtF at hP
  dsimp only at hP
  refine Spec_openAt [blk b 374 [pt b1, .slice al ml cl, .slice ad md cd], blk b1 358 [I a, S q], sl, sd] (by first | exact P0 | exact P1 | exact P2 | exact P3 | exact P4 | exact P5 | exact P6 | exact P7 | exact P8 | exact P9 | exact P10 | exact P11 | exact P12 | exact P13 | exact P14 | exact P15 | exact P16 | exact P17 | exact P18 | exact P19 | exact P20 | exact P21 | exact P22 | exact P23) ?_
  simp only [List.cons_append, List.nil_append]
  refine Spec_enter Tryz.func194 rfl Tryz.ntmps194 rfl ?_
  show SP _ _ _ _ _ [(0, _), (1, _)] _
  refine SP_seq ?_
  refine SP_region ?_
  refine SPL_y (y_assign rfl) rfl ?_
  refine SPL_nil ?_
  refine thenP_n ?_
  refine SP_seq ?_
  refine SP_region ?_
  refine SPL_y (y_move rfl) rfl ?_
  refine SPL_one rfl (SP1_invoke (rv := pt b) (args := []) rfl (posM372 _) pos372 rfl rfl (by repeat (first | exact Part.nil _ | (apply Part.cons; (first | exact P0 | exact P1 | exact P2 | exact P3 | exact P4 | exact P5 | exact P6 | exact P7 | exact P8 | exact P9 | exact P10 | exact P11 | exact P12 | exact P13 | exact P14 | exact P15 | exact P16 | exact P17 | exact P18 | exact P19 | exact P20 | exact P21 | exact P22 | exact P23)) | (apply Part.flat; simp only [List.cons_append, List.nil_append]) | (apply Part.nilc))) ?_)
  rintro v post H' ⟨rfl, rfl⟩ hH
  try simp only [List.cons_append, List.nil_append] at hH
  subst hH
  refine SPL_y (y_build B158 rfl rfl (by simp only [fillL, List.foldl_cons, List.foldl_nil, List.set_cons_zero, List.set_cons_succ]; exact rfl)) rfl ?_
  refine SPL_one rfl (SP1_alloc Tryz.zeroValue158 rfl rfl ?_)
  intro b5
  refine SPL_one rfl (SP1_storeAll Tryz.sizeOf158 rfl rfl rfl rfl rfl (by first | exact U0 | exact U1 | exact U2 | exact U3 | exact U4 | exact U5 | exact U6 | exact U7 | exact U8 | exact U9 | exact U10 | exact U11 | exact U12 | exact U13 | exact U14 | exact U15 | exact U16 | exact U17 | exact U18 | exact U19 | exact U20 | exact U21 | exact U22 | exact U23) (by rfl) ?_)
  refine SPL_nil ?_
  refine thenP_n ?_
  refine SP_seq ?_
  refine SP_seq ?_
  refine SP_region ?_
  refine SPL_y (y_move rfl) rfl ?_
  refine SPL_nil ?_
  refine thenP_n ?_
  refine SP_block ?_
  refine SP_seq ?_
  refine SP_region ?_
  refine SPL_y (y_assertNo Tryz.underlying363 rfl Tryz.zeroValue363 rfl rfl) rfl ?_
  refine SPL_y (y_ext rfl rfl) rfl ?_
  refine SPL_y (y_ext rfl rfl) rfl ?_
  refine SPL_nil ?_
  refine thenP_n ?_
  refine SP_cond_f rfl ?_
  refine SP_seq ?_
  refine SP_region ?_
  refine SPL_y (y_assertNo Tryz.underlying359 rfl Tryz.zeroValue359 rfl rfl) rfl ?_
  refine SPL_y (y_ext rfl rfl) rfl ?_
  refine SPL_y (y_ext rfl rfl) rfl ?_
  refine SPL_nil ?_
  refine thenP_n ?_
  refine SP_cond_f rfl ?_
  refine SP_seq ?_
  refine SP_region ?_
  refine SPL_y (y_assertNo Tryz.underlying309 rfl Tryz.zeroValue309 rfl rfl) rfl ?_
  refine SPL_y (y_ext rfl rfl) rfl ?_
  refine SPL_y (y_ext rfl rfl) rfl ?_
  refine SPL_nil ?_
  refine thenP_n ?_
  refine SP_cond_f rfl ?_
  refine SP_seq ?_
  refine SP_region ?_
  refine SPL_y (y_assertNo Tryz.underlying304 rfl Tryz.zeroValue304 rfl rfl) rfl ?_
  refine SPL_y (y_ext rfl rfl) rfl ?_
  refine SPL_y (y_ext rfl rfl) rfl ?_
  refine SPL_nil ?_
  refine thenP_n ?_
  refine SP_cond_f rfl ?_
  refine SP_seq ?_
  refine SP_region ?_
  refine SPL_y (y_assertNo Tryz.underlying366 rfl Tryz.zeroValue366 rfl rfl) rfl ?_
  refine SPL_y (y_ext rfl rfl) rfl ?_
  refine SPL_y (y_ext rfl rfl) rfl ?_
  refine SPL_nil ?_
  refine thenP_n ?_
  refine SP_cond_f rfl ?_
  refine SP_seq ?_
  refine SP_region ?_
  refine SPL_y (y_assertNo Tryz.underlying295 rfl Tryz.zeroValue295 rfl rfl) rfl ?_
  refine SPL_y (y_ext rfl rfl) rfl ?_
  refine SPL_y (y_ext rfl rfl) rfl ?_
  refine SPL_nil ?_
  refine thenP_n ?_
  refine SP_cond_f rfl ?_
  refine SP_seq ?_
  refine SP_region ?_
  refine SPL_y (y_assertOk Tryz.underlying372 rfl rfl) rfl ?_
  refine SPL_y (y_ext rfl rfl) rfl ?_
  refine SPL_y (y_ext rfl rfl) rfl ?_
  refine SPL_nil ?_
  refine thenP_n ?_
  refine SP_cond_t rfl ?_
  refine SP_seq ?_
  refine SP_region ?_
  refine SPL_y (y_assign rfl) rfl ?_
  refine SPL_nil ?_
  refine thenP_n ?_
  refine SP_seq ?_
  refine SP_region ?_
  refine SPL_y (y_fa fld_158_0 rfl) rfl ?_
  refine SPL_one rfl (SP1_store Tryz.sizeOf3 rfl rfl rfl (by first | exact U0 | exact U1 | exact U2 | exact U3 | exact U4 | exact U5 | exact U6 | exact U7 | exact U8 | exact U9 | exact U10 | exact U11 | exact U12 | exact U13 | exact U14 | exact U15 | exact U16 | exact U17 | exact U18 | exact U19 | exact U20 | exact U21 | exact U22 | exact U23) (by rfl) ?_)
  refine SPL_nil ?_
  refine thenP_n ?_
  refine SP_seq ?_
  refine SP_region ?_
  refine SPL_y (y_move rfl) rfl ?_
  refine SPL_y (y_nil rfl) rfl ?_
  refine SPL_y (y_fa fld_374_0 rfl) rfl ?_
  refine SPL_y (y_load Tryz.isAgg307 rfl (by repeat (first | exact Cell.amid hpre rfl | exact Cell.head rfl | apply Cell.tail))) rfl ?_
  refine SPL_y (y_nil rfl) rfl ?_
  refine SPL_y (y_fa fld_358_1 rfl) rfl ?_
  refine SPL_y (y_load Tryz.isAgg9 rfl (by repeat (first | exact Cell.amid hpre rfl | exact Cell.head rfl | apply Cell.tail))) rfl ?_
  refine SPL_y (y_fa fld_158_6 rfl) rfl ?_
  refine SPL_one rfl (SP1_store Tryz.sizeOf9 rfl rfl rfl (by first | exact U0 | exact U1 | exact U2 | exact U3 | exact U4 | exact U5 | exact U6 | exact U7 | exact U8 | exact U9 | exact U10 | exact U11 | exact U12 | exact U13 | exact U14 | exact U15 | exact U16 | exact U17 | exact U18 | exact U19 | exact U20 | exact U21 | exact U22 | exact U23) (by rfl) ?_)
  refine SPL_nil ?_
  refine thenP_n ?_
  refine SP_seq ?_
  refine SP_region ?_
  refine SPL_y (y_move rfl) rfl ?_
  refine SPL_y (y_move rfl) rfl ?_
  refine SPL_y (y_nil rfl) rfl ?_
  refine SPL_y (y_fa fld_374_1 rfl) rfl ?_
  refine SPL_y (y_load Tryz.isAgg172 rfl (by repeat (first | exact Cell.amid hpre rfl | exact Cell.head rfl | apply Cell.tail))) rfl ?_
  obtain ⟨p41, ns41, hq41, hP⟩ := bnd2 hP
  refine SPL_one rfl (SP1_call (hr.chain (by assumption) (by assumption) hq41) Tryz.call71 rfl rfl (by repeat (first | exact Part.nil _ | (apply Part.cons; (first | exact P0 | exact P1 | exact P2 | exact P3 | exact P4 | exact P5 | exact P6 | exact P7 | exact P8 | exact P9 | exact P10 | exact P11 | exact P12 | exact P13 | exact P14 | exact P15 | exact P16 | exact P17 | exact P18 | exact P19 | exact P20 | exact P21 | exact P22 | exact P23)) | (apply Part.flat; simp only [List.cons_append, List.nil_append]) | (apply Part.nilc))) ?_)
  rintro v post H' ⟨rfl, s41, hs41, rfl⟩ hH
  try simp only [List.cons_append, List.nil_append] at hH
  subst hH
  refine SPL_y (y_fa fld_158_1 rfl) rfl ?_
  refine SPL_one rfl (SP1_store Tryz.sizeOf3 rfl rfl rfl (by first | exact U0 | exact U1 | exact U2 | exact U3 | exact U4 | exact U5 | exact U6 | exact U7 | exact U8 | exact U9 | exact U10 | exact U11 | exact U12 | exact U13 | exact U14 | exact U15 | exact U16 | exact U17 | exact U18 | exact U19 | exact U20 | exact U21 | exact U22 | exact U23) (by rfl) ?_)
  refine SPL_nil ?_
  refine thenP_n ?_
  refine SP_region ?_
  refine SPL_y (y_move rfl) rfl ?_
  refine SPL_y (y_move rfl) rfl ?_
  refine SPL_y (y_nil rfl) rfl ?_
  refine SPL_y (y_fa fld_374_2 rfl) rfl ?_
  refine SPL_y (y_load Tryz.isAgg172 rfl (by repeat (first | exact Cell.amid hpre rfl | exact Cell.head rfl | apply Cell.tail))) rfl ?_
  obtain ⟨p42, ns42, hq42, hP⟩ := bnd2 hP
  refine SPL_one rfl (SP1_call (hr.chain (by assumption) (by assumption) hq42) Tryz.call71 rfl rfl (by repeat (first | exact Part.nil _ | (apply Part.cons; (first | exact P0 | exact P1 | exact P2 | exact P3 | exact P4 | exact P5 | exact P6 | exact P7 | exact P8 | exact P9 | exact P10 | exact P11 | exact P12 | exact P13 | exact P14 | exact P15 | exact P16 | exact P17 | exact P18 | exact P19 | exact P20 | exact P21 | exact P22 | exact P23)) | (apply Part.flat; simp only [List.cons_append, List.nil_append]) | (apply Part.nilc))) ?_)
  rintro v post H' ⟨rfl, s42, hs42, rfl⟩ hH
  try simp only [List.cons_append, List.nil_append] at hH
  subst hH
  refine SPL_y (y_fa fld_158_2 rfl) rfl ?_
  refine SPL_one rfl (SP1_store Tryz.sizeOf3 rfl rfl rfl (by first | exact U0 | exact U1 | exact U2 | exact U3 | exact U4 | exact U5 | exact U6 | exact U7 | exact U8 | exact U9 | exact U10 | exact U11 | exact U12 | exact U13 | exact U14 | exact U15 | exact U16 | exact U17 | exact U18 | exact U19 | exact U20 | exact U21 | exact U22 | exact U23) (by rfl) ?_)
  refine SPL_nil ?_
  refine inBlockP_n ?_
  refine thenP_n ?_
  refine SP_seq ?_
  refine SP_region ?_
  refine SPL_y (y_move rfl) rfl ?_
  refine SPL_y (y_loads Tryz.isAgg158 Tryz.sizeOf158 rfl rfl (by repeat (first | exact Cells.all _ | exact Cells.amid hpre rfl (by decide) | exact Cells.head rfl | apply Cells.tail))) rfl ?_
  refine SPL_one rfl (SP1_call (fl_add y (by assumption) hP) Tryz.call247 rfl rfl (by repeat (first | exact Part.nil _ | (apply Part.cons; (first | exact P0 | exact P1 | exact P2 | exact P3 | exact P4 | exact P5 | exact P6 | exact P7 | exact P8 | exact P9 | exact P10 | exact P11 | exact P12 | exact P13 | exact P14 | exact P15 | exact P16 | exact P17 | exact P18 | exact P19 | exact P20 | exact P21 | exact P22 | exact P23)) | (apply Part.flat; simp only [List.cons_append, List.nil_append]) | (apply Part.nilc))) ?_)
  rintro v post H' ⟨rfl, s57, hs57, rfl⟩ hH
  try simp only [List.cons_append, List.nil_append] at hH
  subst hH
  refine SPL_y (y_assign rfl) rfl ?_
  refine SPL_nil ?_
  refine thenP_n ?_
  refine SP_ret ?_
  refine bodyP_ret (H' := [s57, List.flatten [blk b 374 [pt b1, .slice al ml cl, .slice ad md cd], blk b1 358 [I a, S q], sl, sd]]) (Res1 rfl rfl) (by repeat (first | exact Part.nil _ | (apply Part.cons; (first | exact P0 | exact P1 | exact P2 | exact P3 | exact P4 | exact P5 | exact P6 | exact P7 | exact P8 | exact P9 | exact P10 | exact P11 | exact P12 | exact P13 | exact P14 | exact P15 | exact P16 | exact P17 | exact P18 | exact P19 | exact P20 | exact P21 | exact P22 | exact P23)) | (apply Part.flat; simp only [List.cons_append, List.nil_append]) | (apply Part.nilc))) ?_
  exact ⟨rfl, s57, hs57, rfl⟩

set_option maxHeartbeats 400000 in
theorem fl_callS (y : SX) (fc : RecF) (hr : RecFOk y fc) {a : Int} {f : T} {l : List T} {b2 : Nat} {sf : Seg} {b : Nat} (hf : IsN (.call a f l) (.iface 302 (pt b2)) sf) {ns ns' : List Nd} {r : Int} {s : Seg} (hs : isNs y ns s) (hP : stmtF fc (.callS (.call a f l)) ns = some (r, ns')) : Spec Tryz.prog 194 [pt y.b, .iface 304 (pt b)] [s, List.flatten [blk b 306 [pt b2], sf]] (Ret (fkOk y r ns' (List.flatten [blk b 306 [pt b2], sf]))) := by
  unfold stmtF at hP
  dsimp only at hP
  refine Spec_openAt [blk b 306 [pt b2], sf] (by first | exact P0 | exact P1 | exact P2 | exact P3 | exact P4 | exact P5 | exact P6 | exact P7 | exact P8 | exact P9 | exact P10 | exact P11 | exact P12 | exact P13 | exact P14 | exact P15 | exact P16 | exact P17 | exact P18 | exact P19 | exact P20 | exact P21 | exact P22 | exact P23) ?_
  simp only [List.cons_append, List.nil_append]
  obtain ⟨rest, s', rfl⟩ := hf.callAt
  refine Spec_openAt [blk b2 389 (I a :: rest), s'] (by first | exact P0 | exact P1 | exact P2 | exact P3 | exact P4 | exact P5 | exact P6 | exact P7 | exact P8 | exact P9 | exact P10 | exact P11 | exact P12 | exact P13 | exact P14 | exact P15 | exact P16 | exact P17 | exact P18 | exact P19 | exact P20 | exact P21 | exact P22 | exact P23) ?_
  simp only [List.cons_append, List.nil_append]
  refine Spec_enter Tryz.func194 rfl Tryz.ntmps194 rfl ?_
  show SP _ _ _ _ _ [(0, _), (1, _)] _
  refine SP_seq ?_
  refine SP_region ?_
  refine SPL_y (y_assign rfl) rfl ?_
  refine SPL_nil ?_
  refine thenP_n ?_
  refine SP_seq ?_
  refine SP_region ?_
  refine SPL_y (y_move rfl) rfl ?_
  refine SPL_one rfl (SP1_invoke (rv := pt b) (args := []) rfl (posM304 _) pos304 rfl rfl (by repeat (first | exact Part.nil _ | (apply Part.cons; (first | exact P0 | exact P1 | exact P2 | exact P3 | exact P4 | exact P5 | exact P6 | exact P7 | exact P8 | exact P9 | exact P10 | exact P11 | exact P12 | exact P13 | exact P14 | exact P15 | exact P16 | exact P17 | exact P18 | exact P19 | exact P20 | exact P21 | exact P22 | exact P23)) | (apply Part.flat; simp only [List.cons_append, List.nil_append]) | (apply Part.nilc))) ?_)
  rintro v post H' ⟨rfl, rfl⟩ hH
  try simp only [List.cons_append, List.nil_append] at hH
  subst hH
  refine SPL_y (y_build B158 rfl rfl (by simp only [fillL, List.foldl_cons, List.foldl_nil, List.set_cons_zero, List.set_cons_succ]; exact rfl)) rfl ?_
  refine SPL_one rfl (SP1_alloc Tryz.zeroValue158 rfl rfl ?_)
  intro b5
  refine SPL_one rfl (SP1_storeAll Tryz.sizeOf158 rfl rfl rfl rfl rfl (by first | exact U0 | exact U1 | exact U2 | exact U3 | exact U4 | exact U5 | exact U6 | exact U7 | exact U8 | exact U9 | exact U10 | exact U11 | exact U12 | exact U13 | exact U14 | exact U15 | exact U16 | exact U17 | exact U18 | exact U19 | exact U20 | exact U21 | exact U22 | exact U23) (by rfl) ?_)
  refine SPL_nil ?_
  refine thenP_n ?_
  refine SP_seq ?_
  refine SP_seq ?_
  refine SP_region ?_
  refine SPL_y (y_move rfl) rfl ?_
  refine SPL_nil ?_
  refine thenP_n ?_
  refine SP_block ?_
  refine SP_seq ?_
  refine SP_region ?_
  refine SPL_y (y_assertNo Tryz.underlying363 rfl Tryz.zeroValue363 rfl rfl) rfl ?_
  refine SPL_y (y_ext rfl rfl) rfl ?_
  refine SPL_y (y_ext rfl rfl) rfl ?_
  refine SPL_nil ?_
  refine thenP_n ?_
  refine SP_cond_f rfl ?_
  refine SP_seq ?_
  refine SP_region ?_
  refine SPL_y (y_assertNo Tryz.underlying359 rfl Tryz.zeroValue359 rfl rfl) rfl ?_
  refine SPL_y (y_ext rfl rfl) rfl ?_
  refine SPL_y (y_ext rfl rfl) rfl ?_
  refine SPL_nil ?_
  refine thenP_n ?_
  refine SP_cond_f rfl ?_
  refine SP_seq ?_
  refine SP_region ?_
  refine SPL_y (y_assertNo Tryz.underlying309 rfl Tryz.zeroValue309 rfl rfl) rfl ?_
  refine SPL_y (y_ext rfl rfl) rfl ?_
  refine SPL_y (y_ext rfl rfl) rfl ?_
  refine SPL_nil ?_
  refine thenP_n ?_
  refine SP_cond_f rfl ?_
  refine SP_seq ?_
  refine SP_region ?_
  refine SPL_y (y_assertOk Tryz.underlying304 rfl rfl) rfl ?_
  refine SPL_y (y_ext rfl rfl) rfl ?_
  refine SPL_y (y_ext rfl rfl) rfl ?_
  refine SPL_nil ?_
  refine thenP_n ?_
  refine SP_cond_t rfl ?_
  refine SP_seq ?_
  refine SP_region ?_
  refine SPL_y (y_assign rfl) rfl ?_
  refine SPL_nil ?_
  refine thenP_n ?_
  refine SP_seq ?_
  refine SP_region ?_
  refine SPL_y (y_fa fld_158_0 rfl) rfl ?_
  refine SPL_one rfl (SP1_store Tryz.sizeOf3 rfl rfl rfl (by first | exact U0 | exact U1 | exact U2 | exact U3 | exact U4 | exact U5 | exact U6 | exact U7 | exact U8 | exact U9 | exact U10 | exact U11 | exact U12 | exact U13 | exact U14 | exact U15 | exact U16 | exact U17 | exact U18 | exact U19 | exact U20 | exact U21 | exact U22 | exact U23) (by rfl) ?_)
  refine SPL_nil ?_
  refine thenP_n ?_
  refine SP_region ?_
  refine SPL_y (y_move rfl) rfl ?_
  refine SPL_y (y_move rfl) rfl ?_
  refine SPL_y (y_nil rfl) rfl ?_
  refine SPL_y (y_fa fld_306_0 rfl) rfl ?_
  refine SPL_y (y_load Tryz.isAgg302 rfl (by repeat (first | exact Cell.amid hpre rfl | exact Cell.head rfl | apply Cell.tail))) rfl ?_
  refine SPL_y (y_mki Tryz.underlying302 rfl rfl) rfl ?_
  obtain ⟨p25, ns25, hq25, hP⟩ := bnd2 hP
  refine SPL_one rfl (SP1_call (hr.expr (by assumption) (by assumption) hq25) Tryz.call195 rfl rfl (by repeat (first | exact Part.nil _ | (apply Part.cons; (first | exact P0 | exact P1 | exact P2 | exact P3 | exact P4 | exact P5 | exact P6 | exact P7 | exact P8 | exact P9 | exact P10 | exact P11 | exact P12 | exact P13 | exact P14 | exact P15 | exact P16 | exact P17 | exact P18 | exact P19 | exact P20 | exact P21 | exact P22 | exact P23)) | (apply Part.flat; simp only [List.cons_append, List.nil_append]) | (apply Part.nilc))) ?_)
  rintro v post H' ⟨rfl, s25, hs25, rfl⟩ hH
  try simp only [List.cons_append, List.nil_append] at hH
  subst hH
  refine SPL_y (y_fa fld_158_1 rfl) rfl ?_
  refine SPL_one rfl (SP1_store Tryz.sizeOf3 rfl rfl rfl (by first | exact U0 | exact U1 | exact U2 | exact U3 | exact U4 | exact U5 | exact U6 | exact U7 | exact U8 | exact U9 | exact U10 | exact U11 | exact U12 | exact U13 | exact U14 | exact U15 | exact U16 | exact U17 | exact U18 | exact U19 | exact U20 | exact U21 | exact U22 | exact U23) (by rfl) ?_)
  refine SPL_nil ?_
  refine inBlockP_n ?_
  refine thenP_n ?_
  refine SP_seq ?_
  refine SP_region ?_
  refine SPL_y (y_move rfl) rfl ?_
  refine SPL_y (y_loads Tryz.isAgg158 Tryz.sizeOf158 rfl rfl (by repeat (first | exact Cells.all _ | exact Cells.amid hpre rfl (by decide) | exact Cells.head rfl | apply Cells.tail))) rfl ?_
  refine SPL_one rfl (SP1_call (fl_add y (by assumption) hP) Tryz.call247 rfl rfl (by repeat (first | exact Part.nil _ | (apply Part.cons; (first | exact P0 | exact P1 | exact P2 | exact P3 | exact P4 | exact P5 | exact P6 | exact P7 | exact P8 | exact P9 | exact P10 | exact P11 | exact P12 | exact P13 | exact P14 | exact P15 | exact P16 | exact P17 | exact P18 | exact P19 | exact P20 | exact P21 | exact P22 | exact P23)) | (apply Part.flat; simp only [List.cons_append, List.nil_append]) | (apply Part.nilc))) ?_)
  rintro v post H' ⟨rfl, s57, hs57, rfl⟩ hH
  try simp only [List.cons_append, List.nil_append] at hH
  subst hH
  refine SPL_y (y_assign rfl) rfl ?_
  refine SPL_nil ?_
  refine thenP_n ?_
  refine SP_ret ?_
  refine bodyP_ret (H' := [s57, List.flatten [blk b 306 [pt b2], List.flatten [blk b2 389 (I a :: rest), s']]]) (Res1 rfl rfl) (by repeat (first | exact Part.nil _ | (apply Part.cons; (first | exact P0 | exact P1 | exact P2 | exact P3 | exact P4 | exact P5 | exact P6 | exact P7 | exact P8 | exact P9 | exact P10 | exact P11 | exact P12 | exact P13 | exact P14 | exact P15 | exact P16 | exact P17 | exact P18 | exact P19 | exact P20 | exact P21 | exact P22 | exact P23)) | (apply Part.flat; simp only [List.cons_append, List.nil_append]) | (apply Part.nilc))) ?_
  exact ⟨rfl, s57, hs57, rfl⟩

set_option maxHeartbeats 400000 in
theorem fl_loc (y : SX) (fc : RecF) (hr : RecFOk y fc) {a : Int} {q : List UInt8} {rest : List T} {x : T} {ml cl : Nat} {al : Option Addr} {sl : Seg} {b : Nat} (hl : IsL (.name a q :: rest) al ml cl sl) {vx : Value} {sx : Seg} (hx : IsN x vx sx) {ns ns' : List Nd} {r : Int} {s : Seg} (hs : isNs y ns s) (hP : stmtF fc (.loc (.name a q :: rest) x) ns = some (r, ns')) : Spec Tryz.prog 194 [pt y.b, .iface 363 (pt b)] [s, List.flatten [blk b 365 [.slice al ml cl, vx], sl, sx]] (Ret (fkOk y r ns' (List.flatten [blk b 365 [.slice al ml cl, vx], sl, sx]))) := by
  unfold stmtF at hP
  dsimp only at hP
  refine Spec_openAt [blk b 365 [.slice al ml cl, vx], sl, sx] (by first | exact P0 | exact P1 | exact P2 | exact P3 | exact P4 | exact P5 | exact P6 | exact P7 | exact P8 | exact P9 | exact P10 | exact P11 | exact P12 | exact P13 | exact P14 | exact P15 | exact P16 | exact P17 | exact P18 | exact P19 | exact P20 | exact P21 | exact P22 | exact P23) ?_
  simp only [List.cons_append, List.nil_append]
  obtain ⟨ab, nb, l', s', rfl, rfl, rfl⟩ := hl.first
  refine Spec_openAt [blk ab 236 (.iface 307 (pt nb) :: l'), blk nb 358 [I a, S q], s'] (by first | exact P0 | exact P1 | exact P2 | exact P3 | exact P4 | exact P5 | exact P6 | exact P7 | exact P8 | exact P9 | exact P10 | exact P11 | exact P12 | exact P13 | exact P14 | exact P15 | exact P16 | exact P17 | exact P18 | exact P19 | exact P20 | exact P21 | exact P22 | exact P23) ?_
  simp only [List.cons_append, List.nil_append]
  refine Spec_enter Tryz.func194 rfl Tryz.ntmps194 rfl ?_
  show SP _ _ _ _ _ [(0, _), (1, _)] _
  refine SP_seq ?_
  refine SP_region ?_
  refine SPL_y (y_assign rfl) rfl ?_
  refine SPL_nil ?_
  refine thenP_n ?_
  refine SP_seq ?_
  refine SP_region ?_
  refine SPL_y (y_move rfl) rfl ?_
  refine SPL_one rfl (SP1_invoke (rv := pt b) (args := []) rfl (posM363 _) pos363 rfl rfl (by repeat (first | exact Part.nil _ | (apply Part.cons; (first | exact P0 | exact P1 | exact P2 | exact P3 | exact P4 | exact P5 | exact P6 | exact P7 | exact P8 | exact P9 | exact P10 | exact P11 | exact P12 | exact P13 | exact P14 | exact P15 | exact P16 | exact P17 | exact P18 | exact P19 | exact P20 | exact P21 | exact P22 | exact P23)) | (apply Part.flat; simp only [List.cons_append, List.nil_append]) | (apply Part.nilc))) ?_)
  rintro v post H' ⟨rfl, rfl⟩ hH
  try simp only [List.cons_append, List.nil_append] at hH
  subst hH
  refine SPL_y (y_build B158 rfl rfl (by simp only [fillL, List.foldl_cons, List.foldl_nil, List.set_cons_zero, List.set_cons_succ]; exact rfl)) rfl ?_
  refine SPL_one rfl (SP1_alloc Tryz.zeroValue158 rfl rfl ?_)
  intro b5
  refine SPL_one rfl (SP1_storeAll Tryz.sizeOf158 rfl rfl rfl rfl rfl (by first | exact U0 | exact U1 | exact U2 | exact U3 | exact U4 | exact U5 | exact U6 | exact U7 | exact U8 | exact U9 | exact U10 | exact U11 | exact U12 | exact U13 | exact U14 | exact U15 | exact U16 | exact U17 | exact U18 | exact U19 | exact U20 | exact U21 | exact U22 | exact U23) (by rfl) ?_)
  refine SPL_nil ?_
  refine thenP_n ?_
  refine SP_seq ?_
  refine SP_seq ?_
  refine SP_region ?_
  refine SPL_y (y_move rfl) rfl ?_
  refine SPL_nil ?_
  refine thenP_n ?_
  refine SP_block ?_
  refine SP_seq ?_
  refine SP_region ?_
  refine SPL_y (y_assertOk Tryz.underlying363 rfl rfl) rfl ?_
  refine SPL_y (y_ext rfl rfl) rfl ?_
  refine SPL_y (y_ext rfl rfl) rfl ?_
  refine SPL_nil ?_
  refine thenP_n ?_
  refine SP_cond_t rfl ?_
  refine SP_seq ?_
  refine SP_region ?_
  refine SPL_y (y_assign rfl) rfl ?_
  refine SPL_nil ?_
  refine thenP_n ?_
  refine SP_seq ?_
  refine SP_region ?_
  refine SPL_y (y_move rfl) rfl ?_
  refine SPL_y (y_nil rfl) rfl ?_
  refine SPL_y (y_fa fld_365_0 rfl) rfl ?_
  refine SPL_y (y_load Tryz.isAgg172 rfl (by repeat (first | exact Cell.amid hpre rfl | exact Cell.head rfl | apply Cell.tail))) rfl ?_
  refine SPL_y (y_len_l Tryz.underlying172 rfl) rfl ?_
  refine SPL_if (y_eql rfl rfl) rfl ?_ ?_
  · intro h5_5
    first | rw [if_pos h5_5] at hP | rw [if_neg h5_5] at hP | skip
    refine SPL_nil ?_
    refine thenP_n ?_
    refine SP_cond_t rfl ?_
    refine SP_seq ?_
    refine SP_region ?_
    refine SPL_y (y_fa fld_158_0 rfl) rfl ?_
    refine SPL_one rfl (SP1_store Tryz.sizeOf3 rfl rfl rfl (by first | exact U0 | exact U1 | exact U2 | exact U3 | exact U4 | exact U5 | exact U6 | exact U7 | exact U8 | exact U9 | exact U10 | exact U11 | exact U12 | exact U13 | exact U14 | exact U15 | exact U16 | exact U17 | exact U18 | exact U19 | exact U20 | exact U21 | exact U22 | exact U23) (by rfl) ?_)
    refine SPL_nil ?_
    refine thenP_n ?_
    refine SP_seq ?_
    refine SP_region ?_
    refine SPL_y (y_move rfl) rfl ?_
    refine SPL_y (y_nil rfl) rfl ?_
    refine SPL_y (y_fa fld_365_0 rfl) rfl ?_
    refine SPL_y (y_load Tryz.isAgg172 rfl (by repeat (first | exact Cell.amid hpre rfl | exact Cell.head rfl | apply Cell.tail))) rfl ?_
    refine SPL_y (y_ia Tryz.underlying172 Tryz.sizeOf236 rfl rfl (by omega)) rfl ?_
    refine SPL_y (y_load Tryz.isAgg236 rfl (by repeat (first | exact Cell.amid hpre rfl | exact Cell.head rfl | apply Cell.tail))) rfl ?_
    refine SPL_y (y_assert Tryz.underlying307 rfl rfl) rfl ?_
    refine SPL_y (y_nil rfl) rfl ?_
    refine SPL_y (y_fa fld_358_1 rfl) rfl ?_
    refine SPL_y (y_load Tryz.isAgg9 rfl (by repeat (first | exact Cell.amid hpre rfl | exact Cell.head rfl | apply Cell.tail))) rfl ?_
    refine SPL_y (y_fa fld_158_6 rfl) rfl ?_
    refine SPL_one rfl (SP1_store Tryz.sizeOf9 rfl rfl rfl (by first | exact U0 | exact U1 | exact U2 | exact U3 | exact U4 | exact U5 | exact U6 | exact U7 | exact U8 | exact U9 | exact U10 | exact U11 | exact U12 | exact U13 | exact U14 | exact U15 | exact U16 | exact U17 | exact U18 | exact U19 | exact U20 | exact U21 | exact U22 | exact U23) (by rfl) ?_)
    refine SPL_nil ?_
    refine thenP_n ?_
    refine SP_region ?_
    refine SPL_y (y_move rfl) rfl ?_
    refine SPL_y (y_move rfl) rfl ?_
    refine SPL_y (y_nil rfl) rfl ?_
    refine SPL_y (y_fa fld_365_1 rfl) rfl ?_
    refine SPL_y (y_load Tryz.isAgg292 rfl (by repeat (first | exact Cell.amid hpre rfl | exact Cell.head rfl | apply Cell.tail))) rfl ?_
    obtain ⟨p8, ns8, hq8, hP⟩ := bnd2 hP
    refine SPL_one rfl (SP1_call (fl_opt y fc hr (by assumption) (by assumption) hq8) Tryz.call246 rfl rfl (by repeat (first | exact Part.nil _ | (apply Part.cons; (first | exact P0 | exact P1 | exact P2 | exact P3 | exact P4 | exact P5 | exact P6 | exact P7 | exact P8 | exact P9 | exact P10 | exact P11 | exact P12 | exact P13 | exact P14 | exact P15 | exact P16 | exact P17 | exact P18 | exact P19 | exact P20 | exact P21 | exact P22 | exact P23)) | (apply Part.flat; simp only [List.cons_append, List.nil_append]) | (apply Part.nilc))) ?_)
    rintro v post H' ⟨rfl, s8, hs8, rfl⟩ hH
    try simp only [List.cons_append, List.nil_append] at hH
    subst hH
    refine SPL_y (y_fa fld_158_1 rfl) rfl ?_
    refine SPL_one rfl (SP1_store Tryz.sizeOf3 rfl rfl rfl (by first | exact U0 | exact U1 | exact U2 | exact U3 | exact U4 | exact U5 | exact U6 | exact U7 | exact U8 | exact U9 | exact U10 | exact U11 | exact U12 | exact U13 | exact U14 | exact U15 | exact U16 | exact U17 | exact U18 | exact U19 | exact U20 | exact U21 | exact U22 | exact U23) (by rfl) ?_)
    refine SPL_nil ?_
    refine inBlockP_n ?_
    refine thenP_n ?_
    refine SP_seq ?_
    refine SP_region ?_
    refine SPL_y (y_move rfl) rfl ?_
    refine SPL_y (y_loads Tryz.isAgg158 Tryz.sizeOf158 rfl rfl (by repeat (first | exact Cells.all _ | exact Cells.amid hpre rfl (by decide) | exact Cells.head rfl | apply Cells.tail))) rfl ?_
    refine SPL_one rfl (SP1_call (fl_add y (by assumption) hP) Tryz.call247 rfl rfl (by repeat (first | exact Part.nil _ | (apply Part.cons; (first | exact P0 | exact P1 | exact P2 | exact P3 | exact P4 | exact P5 | exact P6 | exact P7 | exact P8 | exact P9 | exact P10 | exact P11 | exact P12 | exact P13 | exact P14 | exact P15 | exact P16 | exact P17 | exact P18 | exact P19 | exact P20 | exact P21 | exact P22 | exact P23)) | (apply Part.flat; simp only [List.cons_append, List.nil_append]) | (apply Part.nilc))) ?_)
    rintro v post H' ⟨rfl, s57, hs57, rfl⟩ hH
    try simp only [List.cons_append, List.nil_append] at hH
    subst hH
    refine SPL_y (y_assign rfl) rfl ?_
    refine SPL_nil ?_
    refine thenP_n ?_
    refine SP_ret ?_
    refine bodyP_ret (H' := [s57, List.flatten [blk b 365 [.slice (some ⟨ab, 0, none⟩) (rest.length + 1) cl, vx], List.flatten [blk ab 236 (.iface 307 (pt nb) :: l'), blk nb 358 [I a, S q], s'], sx]]) (Res1 rfl rfl) (by repeat (first | exact Part.nil _ | (apply Part.cons; (first | exact P0 | exact P1 | exact P2 | exact P3 | exact P4 | exact P5 | exact P6 | exact P7 | exact P8 | exact P9 | exact P10 | exact P11 | exact P12 | exact P13 | exact P14 | exact P15 | exact P16 | exact P17 | exact P18 | exact P19 | exact P20 | exact P21 | exact P22 | exact P23)) | (apply Part.flat; simp only [List.cons_append, List.nil_append]) | (apply Part.nilc))) ?_
    exact ⟨rfl, s57, hs57, rfl⟩
  intro h5_5
  first | rw [if_neg h5_5] at hP | rw [if_pos (Decidable.not_not.1 h5_5)] at hP | skip
  refine SPL_nil ?_
  refine thenP_n ?_
  refine SP_cond_f rfl ?_
  refine SP_seq ?_
  refine SP_region ?_
  refine SPL_y (y_fa fld_158_0 rfl) rfl ?_
  refine SPL_one rfl (SP1_store Tryz.sizeOf3 rfl rfl rfl (by first | exact U0 | exact U1 | exact U2 | exact U3 | exact U4 | exact U5 | exact U6 | exact U7 | exact U8 | exact U9 | exact U10 | exact U11 | exact U12 | exact U13 | exact U14 | exact U15 | exact U16 | exact U17 | exact U18 | exact U19 | exact U20 | exact U21 | exact U22 | exact U23) (by rfl) ?_)
  refine SPL_nil ?_
  refine thenP_n ?_
  refine SP_seq ?_
  refine SP_region ?_
  refine SPL_y (y_move rfl) rfl ?_
  refine SPL_y (y_move rfl) rfl ?_
  refine SPL_y (y_nil rfl) rfl ?_
  refine SPL_y (y_fa fld_365_0 rfl) rfl ?_
  refine SPL_y (y_load Tryz.isAgg172 rfl (by repeat (first | exact Cell.amid hpre rfl | exact Cell.head rfl | apply Cell.tail))) rfl ?_
  obtain ⟨p10, ns10, hq10, hP⟩ := bnd2 hP
  refine SPL_one rfl (SP1_call (hr.chain (by assumption) (by assumption) hq10) Tryz.call71 rfl rfl (by repeat (first | exact Part.nil _ | (apply Part.cons; (first | exact P0 | exact P1 | exact P2 | exact P3 | exact P4 | exact P5 | exact P6 | exact P7 | exact P8 | exact P9 | exact P10 | exact P11 | exact P12 | exact P13 | exact P14 | exact P15 | exact P16 | exact P17 | exact P18 | exact P19 | exact P20 | exact P21 | exact P22 | exact P23)) | (apply Part.flat; simp only [List.cons_append, List.nil_append]) | (apply Part.nilc))) ?_)
  rintro v post H' ⟨rfl, s10, hs10, rfl⟩ hH
  try simp only [List.cons_append, List.nil_append] at hH
  subst hH
  refine SPL_y (y_fa fld_158_1 rfl) rfl ?_
  refine SPL_one rfl (SP1_store Tryz.sizeOf3 rfl rfl rfl (by first | exact U0 | exact U1 | exact U2 | exact U3 | exact U4 | exact U5 | exact U6 | exact U7 | exact U8 | exact U9 | exact U10 | exact U11 | exact U12 | exact U13 | exact U14 | exact U15 | exact U16 | exact U17 | exact U18 | exact U19 | exact U20 | exact U21 | exact U22 | exact U23) (by rfl) ?_)
  refine SPL_nil ?_
  refine thenP_n ?_
  refine SP_region ?_
  refine SPL_y (y_move rfl) rfl ?_
  refine SPL_y (y_move rfl) rfl ?_
  refine SPL_y (y_nil rfl) rfl ?_
  refine SPL_y (y_fa fld_365_1 rfl) rfl ?_
  refine SPL_y (y_load Tryz.isAgg292 rfl (by repeat (first | exact Cell.amid hpre rfl | exact Cell.head rfl | apply Cell.tail))) rfl ?_
  obtain ⟨p11, ns11, hq11, hP⟩ := bnd2 hP
  refine SPL_one rfl (SP1_call (hr.expr (by assumption) (by assumption) hq11) Tryz.call195 rfl rfl (by repeat (first | exact Part.nil _ | (apply Part.cons; (first | exact P0 | exact P1 | exact P2 | exact P3 | exact P4 | exact P5 | exact P6 | exact P7 | exact P8 | exact P9 | exact P10 | exact P11 | exact P12 | exact P13 | exact P14 | exact P15 | exact P16 | exact P17 | exact P18 | exact P19 | exact P20 | exact P21 | exact P22 | exact P23)) | (apply Part.flat; simp only [List.cons_append, List.nil_append]) | (apply Part.nilc))) ?_)
  rintro v post H' ⟨rfl, s11, hs11, rfl⟩ hH
  try simp only [List.cons_append, List.nil_append] at hH
  subst hH
  refine SPL_y (y_fa fld_158_2 rfl) rfl ?_
  refine SPL_one rfl (SP1_store Tryz.sizeOf3 rfl rfl rfl (by first | exact U0 | exact U1 | exact U2 | exact U3 | exact U4 | exact U5 | exact U6 | exact U7 | exact U8 | exact U9 | exact U10 | exact U11 | exact U12 | exact U13 | exact U14 | exact U15 | exact U16 | exact U17 | exact U18 | exact U19 | exact U20 | exact U21 | exact U22 | exact U23) (by rfl) ?_)
  refine SPL_nil ?_
  refine inBlockP_n ?_
  refine thenP_n ?_
  refine SP_seq ?_
  refine SP_region ?_
  refine SPL_y (y_move rfl) rfl ?_
  refine SPL_y (y_loads Tryz.isAgg158 Tryz.sizeOf158 rfl rfl (by repeat (first | exact Cells.all _ | exact Cells.amid hpre rfl (by decide) | exact Cells.head rfl | apply Cells.tail))) rfl ?_
  refine SPL_one rfl (SP1_call (fl_add y (by assumption) hP) Tryz.call247 rfl rfl (by repeat (first | exact Part.nil _ | (apply Part.cons; (first | exact P0 | exact P1 | exact P2 | exact P3 | exact P4 | exact P5 | exact P6 | exact P7 | exact P8 | exact P9 | exact P10 | exact P11 | exact P12 | exact P13 | exact P14 | exact P15 | exact P16 | exact P17 | exact P18 | exact P19 | exact P20 | exact P21 | exact P22 | exact P23)) | (apply Part.flat; simp only [List.cons_append, List.nil_append]) | (apply Part.nilc))) ?_)
  rintro v post H' ⟨rfl, s57, hs57, rfl⟩ hH
  try simp only [List.cons_append, List.nil_append] at hH
  subst hH
  refine SPL_y (y_assign rfl) rfl ?_
  refine SPL_nil ?_
  refine thenP_n ?_
  refine SP_ret ?_
  refine bodyP_ret (H' := [s57, List.flatten [blk b 365 [.slice (some ⟨ab, 0, none⟩) (rest.length + 1) cl, vx], List.flatten [blk ab 236 (.iface 307 (pt nb) :: l'), blk nb 358 [I a, S q], s'], sx]]) (Res1 rfl rfl) (by repeat (first | exact Part.nil _ | (apply Part.cons; (first | exact P0 | exact P1 | exact P2 | exact P3 | exact P4 | exact P5 | exact P6 | exact P7 | exact P8 | exact P9 | exact P10 | exact P11 | exact P12 | exact P13 | exact P14 | exact P15 | exact P16 | exact P17 | exact P18 | exact P19 | exact P20 | exact P21 | exact P22 | exact P23)) | (apply Part.flat; simp only [List.cons_append, List.nil_append]) | (apply Part.nilc))) ?_
  exact ⟨rfl, s57, hs57, rfl⟩

set_option maxHeartbeats 400000 in
theorem fl_forIn (y : SX) (fc : RecF) (hr : RecFOk y fc) {a : Int} {q : List UInt8} {rest d : List T} {x : T} {ml cl : Nat} {al : Option Addr} {sl : Seg} {b : Nat} (hl : IsL (.name a q :: rest) al ml cl sl) {vx : Value} {sx : Seg} (hx : IsN x vx sx) {md cd : Nat} {ad : Option Addr} {sd : Seg} (hd : IsL d ad md cd sd) {ns ns' : List Nd} {r : Int} {s : Seg} (hs : isNs y ns s) (hP : stmtF fc (.forIn (.name a q :: rest) x d) ns = some (r, ns')) : Spec Tryz.prog 194 [pt y.b, .iface 369 (pt b)] [s, List.flatten [blk b 371 [.slice al ml cl, vx, .slice ad md cd], sl, sx, sd]] (Ret (fkOk y r ns' (List.flatten [blk b 371 [.slice al ml cl, vx, .slice ad md cd], sl, sx, sd]))) := by
  unfold stmtF at hP
  dsimp only at hP
  refine Spec_openAt [blk b 371 [.slice al ml cl, vx, .slice ad md cd], sl, sx, sd] (by first | exact P0 | exact P1 | exact P2 | exact P3 | exact P4 | exact P5 | exact P6 | exact P7 | exact P8 | exact P9 | exact P10 | exact P11 | exact P12 | exact P13 | exact P14 | exact P15 | exact P16 | exact P17 | exact P18 | exact P19 | exact P20 | exact P21 | exact P22 | exact P23) ?_
  simp only [List.cons_append, List.nil_append]
  obtain ⟨ab, nb, l', s', rfl, rfl, rfl⟩ := hl.first
  refine Spec_openAt [blk ab 236 (.iface 307 (pt nb) :: l'), blk nb 358 [I a, S q], s'] (by first | exact P0 | exact P1 | exact P2 | exact P3 | exact P4 | exact P5 | exact P6 | exact P7 | exact P8 | exact P9 | exact P10 | exact P11 | exact P12 | exact P13 | exact P14 | exact P15 | exact P16 | exact P17 | exact P18 | exact P19 | exact P20 | exact P21 | exact P22 | exact P23) ?_
  simp only [List.cons_append, List.nil_append]
  refine Spec_enter Tryz.func194 rfl Tryz.ntmps194 rfl ?_
  show SP _ _ _ _ _ [(0, _), (1, _)] _
  refine SP_seq ?_
  refine SP_region ?_
  refine SPL_y (y_assign rfl) rfl ?_
  refine SPL_nil ?_
  refine thenP_n ?_
  refine SP_seq ?_
  refine SP_region ?_
  refine SPL_y (y_move rfl) rfl ?_
  refine SPL_one rfl (SP1_invoke (rv := pt b) (args := []) rfl (posM369 _) pos369 rfl rfl (by repeat (first | exact Part.nil _ | (apply Part.cons; (first | exact P0 | exact P1 | exact P2 | exact P3 | exact P4 | exact P5 | exact P6 | exact P7 | exact P8 | exact P9 | exact P10 | exact P11 | exact P12 | exact P13 | exact P14 | exact P15 | exact P16 | exact P17 | exact P18 | exact P19 | exact P20 | exact P21 | exact P22 | exact P23)) | (apply Part.flat; simp only [List.cons_append, List.nil_append]) | (apply Part.nilc))) ?_)
  rintro v post H' ⟨rfl, rfl⟩ hH
  try simp only [List.cons_append, List.nil_append] at hH
  subst hH
  refine SPL_y (y_build B158 rfl rfl (by simp only [fillL, List.foldl_cons, List.foldl_nil, List.set_cons_zero, List.set_cons_succ]; exact rfl)) rfl ?_
  refine SPL_one rfl (SP1_alloc Tryz.zeroValue158 rfl rfl ?_)
  intro b5
  refine SPL_one rfl (SP1_storeAll Tryz.sizeOf158 rfl rfl rfl rfl rfl (by first | exact U0 | exact U1 | exact U2 | exact U3 | exact U4 | exact U5 | exact U6 | exact U7 | exact U8 | exact U9 | exact U10 | exact U11 | exact U12 | exact U13 | exact U14 | exact U15 | exact U16 | exact U17 | exact U18 | exact U19 | exact U20 | exact U21 | exact U22 | exact U23) (by rfl) ?_)
  refine SPL_nil ?_
  refine thenP_n ?_
  refine SP_seq ?_
  refine SP_seq ?_
  refine SP_region ?_
  refine SPL_y (y_move rfl) rfl ?_
  refine SPL_nil ?_
  refine thenP_n ?_
  refine SP_block ?_
  refine SP_seq ?_
  refine SP_region ?_
  refine SPL_y (y_assertNo Tryz.underlying363 rfl Tryz.zeroValue363 rfl rfl) rfl ?_
  refine SPL_y (y_ext rfl rfl) rfl ?_
  refine SPL_y (y_ext rfl rfl) rfl ?_
  refine SPL_nil ?_
  refine thenP_n ?_
  refine SP_cond_f rfl ?_
  refine SP_seq ?_
  refine SP_region ?_
  refine SPL_y (y_assertNo Tryz.underlying359 rfl Tryz.zeroValue359 rfl rfl) rfl ?_
  refine SPL_y (y_ext rfl rfl) rfl ?_
  refine SPL_y (y_ext rfl rfl) rfl ?_
  refine SPL_nil ?_
  refine thenP_n ?_
  refine SP_cond_f rfl ?_
  refine SP_seq ?_
  refine SP_region ?_
  refine SPL_y (y_assertNo Tryz.underlying309 rfl Tryz.zeroValue309 rfl rfl) rfl ?_
  refine SPL_y (y_ext rfl rfl) rfl ?_
  refine SPL_y (y_ext rfl rfl) rfl ?_
  refine SPL_nil ?_
  refine thenP_n ?_
  refine SP_cond_f rfl ?_
  refine SP_seq ?_
  refine SP_region ?_
  refine SPL_y (y_assertNo Tryz.underlying304 rfl Tryz.zeroValue304 rfl rfl) rfl ?_
  refine SPL_y (y_ext rfl rfl) rfl ?_
  refine SPL_y (y_ext rfl rfl) rfl ?_
  refine SPL_nil ?_
  refine thenP_n ?_
  refine SP_cond_f rfl ?_
  refine SP_seq ?_
  refine SP_region ?_
  refine SPL_y (y_assertNo Tryz.underlying366 rfl Tryz.zeroValue366 rfl rfl) rfl ?_
  refine SPL_y (y_ext rfl rfl) rfl ?_
  refine SPL_y (y_ext rfl rfl) rfl ?_
  refine SPL_nil ?_
  refine thenP_n ?_
  refine SP_cond_f rfl ?_
  refine SP_seq ?_
  refine SP_region ?_
  refine SPL_y (y_assertNo Tryz.underlying295 rfl Tryz.zeroValue295 rfl rfl) rfl ?_
  refine SPL_y (y_ext rfl rfl) rfl ?_
  refine SPL_y (y_ext rfl rfl) rfl ?_
  refine SPL_nil ?_
  refine thenP_n ?_
  refine SP_cond_f rfl ?_
  refine SP_seq ?_
  refine SP_region ?_
  refine SPL_y (y_assertNo Tryz.underlying372 rfl Tryz.zeroValue372 rfl rfl) rfl ?_
  refine SPL_y (y_ext rfl rfl) rfl ?_
  refine SPL_y (y_ext rfl rfl) rfl ?_
  refine SPL_nil ?_
  refine thenP_n ?_
  refine SP_cond_f rfl ?_
  refine SP_seq ?_
  refine SP_region ?_
  refine SPL_y (y_assertOk Tryz.underlying369 rfl rfl) rfl ?_
  refine SPL_y (y_ext rfl rfl) rfl ?_
  refine SPL_y (y_ext rfl rfl) rfl ?_
  refine SPL_nil ?_
  refine thenP_n ?_
  refine SP_cond_t rfl ?_
  refine SP_seq ?_
  refine SP_region ?_
  refine SPL_y (y_assign rfl) rfl ?_
  refine SPL_nil ?_
  refine thenP_n ?_
  refine SP_seq ?_
  refine SP_region ?_
  refine SPL_y (y_fa fld_158_0 rfl) rfl ?_
  refine SPL_one rfl (SP1_store Tryz.sizeOf3 rfl rfl rfl (by first | exact U0 | exact U1 | exact U2 | exact U3 | exact U4 | exact U5 | exact U6 | exact U7 | exact U8 | exact U9 | exact U10 | exact U11 | exact U12 | exact U13 | exact U14 | exact U15 | exact U16 | exact U17 | exact U18 | exact U19 | exact U20 | exact U21 | exact U22 | exact U23) (by rfl) ?_)
  refine SPL_nil ?_
  refine thenP_n ?_
  refine SP_seq ?_
  refine SP_region ?_
  refine SPL_y (y_move rfl) rfl ?_
  refine SPL_y (y_move rfl) rfl ?_
  refine SPL_y (y_nil rfl) rfl ?_
  refine SPL_y (y_fa fld_371_0 rfl) rfl ?_
  refine SPL_y (y_load Tryz.isAgg172 rfl (by repeat (first | exact Cell.amid hpre rfl | exact Cell.head rfl | apply Cell.tail))) rfl ?_
  obtain ⟨p46, ns46, hq46, hP⟩ := bnd2 hP
  refine SPL_one rfl (SP1_call (hr.chain (by assumption) (by assumption) hq46) Tryz.call71 rfl rfl (by repeat (first | exact Part.nil _ | (apply Part.cons; (first | exact P0 | exact P1 | exact P2 | exact P3 | exact P4 | exact P5 | exact P6 | exact P7 | exact P8 | exact P9 | exact P10 | exact P11 | exact P12 | exact P13 | exact P14 | exact P15 | exact P16 | exact P17 | exact P18 | exact P19 | exact P20 | exact P21 | exact P22 | exact P23)) | (apply Part.flat; simp only [List.cons_append, List.nil_append]) | (apply Part.nilc))) ?_)
  rintro v post H' ⟨rfl, s46, hs46, rfl⟩ hH
  try simp only [List.cons_append, List.nil_append] at hH
  subst hH
  refine SPL_y (y_fa fld_158_1 rfl) rfl ?_
  refine SPL_one rfl (SP1_store Tryz.sizeOf3 rfl rfl rfl (by first | exact U0 | exact U1 | exact U2 | exact U3 | exact U4 | exact U5 | exact U6 | exact U7 | exact U8 | exact U9 | exact U10 | exact U11 | exact U12 | exact U13 | exact U14 | exact U15 | exact U16 | exact U17 | exact U18 | exact U19 | exact U20 | exact U21 | exact U22 | exact U23) (by rfl) ?_)
  refine SPL_nil ?_
  refine thenP_n ?_
  refine SP_seq ?_
  refine SP_region ?_
  refine SPL_y (y_move rfl) rfl ?_
  refine SPL_y (y_move rfl) rfl ?_
  refine SPL_y (y_nil rfl) rfl ?_
  refine SPL_y (y_fa fld_371_1 rfl) rfl ?_
  refine SPL_y (y_load Tryz.isAgg292 rfl (by repeat (first | exact Cell.amid hpre rfl | exact Cell.head rfl | apply Cell.tail))) rfl ?_
  obtain ⟨p47, ns47, hq47, hP⟩ := bnd2 hP
  refine SPL_one rfl (SP1_call (hr.expr (by assumption) (by assumption) hq47) Tryz.call195 rfl rfl (by repeat (first | exact Part.nil _ | (apply Part.cons; (first | exact P0 | exact P1 | exact P2 | exact P3 | exact P4 | exact P5 | exact P6 | exact P7 | exact P8 | exact P9 | exact P10 | exact P11 | exact P12 | exact P13 | exact P14 | exact P15 | exact P16 | exact P17 | exact P18 | exact P19 | exact P20 | exact P21 | exact P22 | exact P23)) | (apply Part.flat; simp only [List.cons_append, List.nil_append]) | (apply Part.nilc))) ?_)
  rintro v post H' ⟨rfl, s47, hs47, rfl⟩ hH
  try simp only [List.cons_append, List.nil_append] at hH
  subst hH
  refine SPL_y (y_fa fld_158_2 rfl) rfl ?_
  refine SPL_one rfl (SP1_store Tryz.sizeOf3 rfl rfl rfl (by first | exact U0 | exact U1 | exact U2 | exact U3 | exact U4 | exact U5 | exact U6 | exact U7 | exact U8 | exact U9 | exact U10 | exact U11 | exact U12 | exact U13 | exact U14 | exact U15 | exact U16 | exact U17 | exact U18 | exact U19 | exact U20 | exact U21 | exact U22 | exact U23) (by rfl) ?_)
  refine SPL_nil ?_
  refine thenP_n ?_
  refine SP_region ?_
  refine SPL_y (y_move rfl) rfl ?_
  refine SPL_y (y_move rfl) rfl ?_
  refine SPL_y (y_nil rfl) rfl ?_
  refine SPL_y (y_fa fld_371_2 rfl) rfl ?_
  refine SPL_y (y_load Tryz.isAgg172 rfl (by repeat (first | exact Cell.amid hpre rfl | exact Cell.head rfl | apply Cell.tail))) rfl ?_
  obtain ⟨p48, ns48, hq48, hP⟩ := bnd2 hP
  refine SPL_one rfl (SP1_call (hr.chain (by assumption) (by assumption) hq48) Tryz.call71 rfl rfl (by repeat (first | exact Part.nil _ | (apply Part.cons; (first | exact P0 | exact P1 | exact P2 | exact P3 | exact P4 | exact P5 | exact P6 | exact P7 | exact P8 | exact P9 | exact P10 | exact P11 | exact P12 | exact P13 | exact P14 | exact P15 | exact P16 | exact P17 | exact P18 | exact P19 | exact P20 | exact P21 | exact P22 | exact P23)) | (apply Part.flat; simp only [List.cons_append, List.nil_append]) | (apply Part.nilc))) ?_)
  rintro v post H' ⟨rfl, s48, hs48, rfl⟩ hH
  try simp only [List.cons_append, List.nil_append] at hH
  subst hH
  refine SPL_y (y_fa fld_158_3 rfl) rfl ?_
  refine SPL_one rfl (SP1_store Tryz.sizeOf3 rfl rfl rfl (by first | exact U0 | exact U1 | exact U2 | exact U3 | exact U4 | exact U5 | exact U6 | exact U7 | exact U8 | exact U9 | exact U10 | exact U11 | exact U12 | exact U13 | exact U14 | exact U15 | exact U16 | exact U17 | exact U18 | exact U19 | exact U20 | exact U21 | exact U22 | exact U23) (by rfl) ?_)
  refine SPL_nil ?_
  refine inBlockP_n ?_
  refine thenP_n ?_
  refine SP_seq ?_
  refine SP_region ?_
  refine SPL_y (y_move rfl) rfl ?_
  refine SPL_y (y_loads Tryz.isAgg158 Tryz.sizeOf158 rfl rfl (by repeat (first | exact Cells.all _ | exact Cells.amid hpre rfl (by decide) | exact Cells.head rfl | apply Cells.tail))) rfl ?_
  refine SPL_one rfl (SP1_call (fl_add y (by assumption) hP) Tryz.call247 rfl rfl (by repeat (first | exact Part.nil _ | (apply Part.cons; (first | exact P0 | exact P1 | exact P2 | exact P3 | exact P4 | exact P5 | exact P6 | exact P7 | exact P8 | exact P9 | exact P10 | exact P11 | exact P12 | exact P13 | exact P14 | exact P15 | exact P16 | exact P17 | exact P18 | exact P19 | exact P20 | exact P21 | exact P22 | exact P23)) | (apply Part.flat; simp only [List.cons_append, List.nil_append]) | (apply Part.nilc))) ?_)
  rintro v post H' ⟨rfl, s57, hs57, rfl⟩ hH
  try simp only [List.cons_append, List.nil_append] at hH
  subst hH
  refine SPL_y (y_assign rfl) rfl ?_
  refine SPL_nil ?_
  refine thenP_n ?_
  refine SP_ret ?_
  refine bodyP_ret (H' := [s57, List.flatten [blk b 371 [.slice (some ⟨ab, 0, none⟩) (rest.length + 1) cl, vx, .slice ad md cd], List.flatten [blk ab 236 (.iface 307 (pt nb) :: l'), blk nb 358 [I a, S q], s'], sx, sd]]) (Res1 rfl rfl) (by repeat (first | exact Part.nil _ | (apply Part.cons; (first | exact P0 | exact P1 | exact P2 | exact P3 | exact P4 | exact P5 | exact P6 | exact P7 | exact P8 | exact P9 | exact P10 | exact P11 | exact P12 | exact P13 | exact P14 | exact P15 | exact P16 | exact P17 | exact P18 | exact P19 | exact P20 | exact P21 | exact P22 | exact P23)) | (apply Part.flat; simp only [List.cons_append, List.nil_append]) | (apply Part.nilc))) ?_
  exact ⟨rfl, s57, hs57, rfl⟩

end Go.Sl
