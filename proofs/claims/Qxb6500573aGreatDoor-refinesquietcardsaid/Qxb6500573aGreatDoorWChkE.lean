/- Walks: package table, the check: places (made by program out of short notes) -/
import Derived.Test.Qxb6500573aGreatDoorWChkD
namespace Go.Sl
open Go Go.Wl Go.Proofs
set_option maxRecDepth 100000
set_option linter.unusedVariables false
set_option linter.unusedSimpArgs false
/-- A round with more memory about it. -/
theorem roundC_part {P : Program} {l k fn : Nat} {tmps : Array Value} {asg body : Code} {r0 r1 : Loop} {HR H' rest HQ : Hp} (hp : Part H' HR rest)
    (h : ∀ {A w : World} {Fr : Seg}, Own A w (lpSeg l r0 ++ (HR.flatten ++ Fr)) → RoundIn Fence.wide k P l fn tmps asg body w (fun e w' => ∃ H2, e = .returned (.bool true) ∧ H2 = HQ ∧ Own A w' (lpSeg l r1 ++ (H2.flatten ++ Fr)))) :
    ∀ {A w : World} {Fr : Seg}, Own A w (lpSeg l r0 ++ (H'.flatten ++ Fr)) → RoundIn Fence.wide k P l fn tmps asg body w (fun e w' => ∃ H2, e = .returned (.bool true) ∧ H2 = HQ ++ rest ∧ Own A w' (lpSeg l r1 ++ (H2.flatten ++ Fr))) := by
  intro A w Fr ho
  have hperm : ∀ {a b c : Seg}, (a ++ (b ++ c)).Perm (b ++ (a ++ c)) := fun {a b c} => by
    rw [← List.append_assoc, ← List.append_assoc]
    exact List.Perm.append_right c List.perm_append_comm
  have h1 : Own A w (HR.flatten ++ (rest.flatten ++ (lpSeg l r0 ++ Fr))) := hp.own (ho.perm hperm)
  have h2 : Own A w (lpSeg l r0 ++ (HR.flatten ++ (rest.flatten ++ Fr))) := by
    refine h1.perm ?_
    have e1 : (HR.flatten ++ (rest.flatten ++ (lpSeg l r0 ++ Fr))).Perm (HR.flatten ++ (lpSeg l r0 ++ (rest.flatten ++ Fr))) := List.Perm.append_left _ hperm
    exact e1.trans hperm
  refine (h (Fr := rest.flatten ++ Fr) h2).mono ?_
  rintro e w' ⟨H2, h3, rfl, h5⟩
  exact ⟨_, h3, rfl, by simpa [List.append_assoc] using h5⟩
theorem tab_placesT (tb o : Nat) (from_ : Int) : Spec Tryz.prog 234 [.pointer (some ⟨tb, o, none⟩), I from_, .bool true] [] (Ret fun v H => ∃ b3 b4 b5, v = .func (.func 274) #[] (List.toArray [pt b4, pt b3, pt b5]) ∧ H = [blk b3 239 [.pointer (some ⟨tb, o, none⟩)], blk b4 3 [I from_], blk b5 4 [.bool true]]) := by
  refine Spec_enter Tryz.func234 rfl Tryz.ntmps234 rfl ?_
  show SP _ _ _ _ _ [(0, _), (1, _), (2, _)] _
  refine SP_seq ?_
  refine SP_region ?_
  refine SPL_one rfl (SP1_box rfl rfl rfl ?_)
  intro b3
  refine SPL_one rfl (SP1_box rfl rfl rfl ?_)
  intro b4
  refine SPL_one rfl (SP1_box rfl rfl rfl ?_)
  intro b5
  refine SPL_y (y_assign rfl) rfl ?_
  refine SPL_nil ?_
  refine thenP_n ?_
  refine SP_seq ?_
  refine SP_region ?_
  refine SPL_y (y_mkf rfl rfl) rfl ?_
  refine SPL_y (y_assign rfl) rfl ?_
  refine SPL_nil ?_
  refine thenP_n ?_
  refine SP_ret ?_
  refine bodyP_ret (H' := [blk b3 239 [.pointer (some ⟨tb, o, none⟩)], blk b4 3 [I from_], blk b5 4 [.bool true]]) (Res1 rfl rfl) (by repeat (first | exact Part.nil _ | (apply Part.cons; with_reducible (first | exact P0 | exact P1 | exact P2 | exact P3 | exact P4 | exact P5 | exact P6 | exact P7 | exact P8 | exact P9 | exact P10 | exact P11 | exact P12 | exact P13 | exact P14 | exact P15 | exact P16 | exact P17 | exact P18 | exact P19 | exact P20 | exact P21 | exact P22 | exact P23)) | (apply Part.flat; simp only [List.cons_append, List.nil_append]) | (apply Part.cons; (first | exact P0 | exact P1 | exact P2 | exact P3 | exact P4 | exact P5 | exact P6 | exact P7 | exact P8 | exact P9 | exact P10 | exact P11 | exact P12 | exact P13 | exact P14 | exact P15 | exact P16 | exact P17 | exact P18 | exact P19 | exact P20 | exact P21 | exact P22 | exact P23)) | (apply Part.nilc))) ?_
  exact ⟨b3, b4, b5, rfl, rfl⟩

set_option maxHeartbeats 4000000 in
theorem tab_places1C {l : Nat} {r0 : Loop} (tb o : Nat) (pre post : List Value) (hpre : pre.length = o) (t : Tb) (oa : Option Addr) (oc : Nat) (so : Seg) (ho : Arr 257 6 oa t.order.length oc (t.order.flatMap entV) so) (x1 x2 x3 x4 x5 : Value) (b3 b4 b5 : Nat) (sI : Nat → Seg) (hlen : t.order.length ≤ 1000) (hps : 2 = r0.params.size) (hR : ∀ (i : Nat) (e : V × V), t.order[i]? = some e → ∀ {A w : World} {Fr : Seg}, Own A w (lpSeg l r0 ++ (List.flatten [sI i] ++ Fr)) → RoundIn Fence.wide (0 - 1) Tryz.prog l r0.fn ((r0.params.zip (List.toArray [I ((i : Nat) : Int), .agg (entV e).toArray])).foldl (fun t (p, v) => t.setIfInBounds p v) r0.tmps) r0.assign r0.body w (fun e' w' => ∃ H2, e' = .returned (.bool true) ∧ H2 = [sI (i + 1)] ∧ Own A w' (lpSeg l r0 ++ (H2.flatten ++ Fr)))) : Spec Tryz.prog 274 (.func (.yield l) #[] #[] :: [pt b4, pt b3, pt b5]) [lpSeg l r0, blk b3 239 [.pointer (some ⟨tb, o, none⟩)], blk b4 3 [I 0], blk b5 4 [.bool true], blk tb 245 (pre ++ [.slice oa t.order.length oc, x1, x2, x3, x4, x5] ++ post), so, sI 0] (Ret fun v Hx => Hx = [lpSeg l r0, blk tb 245 (pre ++ [.slice oa t.order.length oc, x1, x2, x3, x4, x5] ++ post), so, sI t.order.length]) := by
  refine Spec_enter Tryz.func274 rfl Tryz.ntmps274 rfl ?_
  show SP _ _ _ _ _ [(0, _), (1, _), (2, _), (3, _)] _
  refine SP_seq ?_
  refine SP_region ?_
  refine SPL_y (y_load Tryz.isAgg3 rfl (by repeat (first | exact Cell.amid hpre rfl | exact Cell.head rfl | apply Cell.tail))) rfl ?_
  refine SPL_y (y_assign rfl) rfl ?_
  refine SPL_nil ?_
  refine thenP_n ?_
  refine SP_block ?_
  refine SP_loop (G := Nat) (fun g => t.order.length - g) (fun g => [(0, .func (.yield l) #[] #[]), (1, pt b4), (2, pt b3), (3, pt b5), (5, I ((g : Nat) : Int))]) (fun g => [lpSeg l r0, blk b3 239 [.pointer (some ⟨tb, o, none⟩)], blk b4 3 [I 0], blk b5 4 [.bool true], blk tb 245 (pre ++ [.slice oa t.order.length oc, x1, x2, x3, x4, x5] ++ post), so, sI g]) (fun g => g ≤ t.order.length) (0) (Nat.zero_le _) (by repeat (first | exact Sub.nil _ | refine Sub.cons rfl ?_)) (by repeat (first | exact Part.nil _ | (apply Part.cons; with_reducible (first | exact P0 | exact P1 | exact P2 | exact P3 | exact P4 | exact P5 | exact P6 | exact P7 | exact P8 | exact P9 | exact P10 | exact P11 | exact P12 | exact P13 | exact P14 | exact P15 | exact P16 | exact P17 | exact P18 | exact P19 | exact P20 | exact P21 | exact P22 | exact P23)) | (apply Part.flat; simp only [List.cons_append, List.nil_append]) | (apply Part.cons; (first | exact P0 | exact P1 | exact P2 | exact P3 | exact P4 | exact P5 | exact P6 | exact P7 | exact P8 | exact P9 | exact P10 | exact P11 | exact P12 | exact P13 | exact P14 | exact P15 | exact P16 | exact P17 | exact P18 | exact P19 | exact P20 | exact P21 | exact P22 | exact P23)) | (apply Part.nilc))) ?_
  intro g1 hg1
  refine SP_seq ?_
  refine SP_seq ?_
  refine SP_region ?_
  refine SPL_y (y_move rfl) rfl ?_
  refine SPL_y (y_load Tryz.isAgg239 rfl (by repeat (first | exact Cell.amid hpre rfl | exact Cell.head rfl | apply Cell.tail))) rfl ?_
  refine SPL_y (y_nil rfl) rfl ?_
  refine SPL_y (y_fa fld_245_0 rfl) rfl ?_
  refine SPL_y (y_load Tryz.isAgg240 rfl (by repeat (first | exact Cell.amid hpre rfl | exact Cell.head rfl | apply Cell.tail))) rfl ?_
  refine SPL_y (y_len_l Tryz.underlying240 rfl) rfl ?_
  refine SPL_ifn (y_lss rfl rfl) rfl ?_ ?_
  · intro h1_6
    refine SPL_nil ?_
    refine thenP_n ?_
    refine SP_cond_f rfl ?_
    refine SP_exit ?_
    refine thenP_exit ?_
    refine thenP_exit ?_
    refine inBlockP_hit ?_
    refine bodyP_end (H' := [lpSeg l r0, blk tb 245 (pre ++ [.slice oa t.order.length oc, x1, x2, x3, x4, x5] ++ post), so, sI g1]) (Res0 rfl) (by repeat (first | exact Part.nil _ | (apply Part.cons; with_reducible (first | exact P0 | exact P1 | exact P2 | exact P3 | exact P4 | exact P5 | exact P6 | exact P7 | exact P8 | exact P9 | exact P10 | exact P11 | exact P12 | exact P13 | exact P14 | exact P15 | exact P16 | exact P17 | exact P18 | exact P19 | exact P20 | exact P21 | exact P22 | exact P23)) | (apply Part.flat; simp only [List.cons_append, List.nil_append]) | (apply Part.cons; (first | exact P0 | exact P1 | exact P2 | exact P3 | exact P4 | exact P5 | exact P6 | exact P7 | exact P8 | exact P9 | exact P10 | exact P11 | exact P12 | exact P13 | exact P14 | exact P15 | exact P16 | exact P17 | exact P18 | exact P19 | exact P20 | exact P21 | exact P22 | exact P23)) | (apply Part.nilc))) ?_
    obtain rfl : g1 = t.order.length := by omega
    rfl
  intro h1_6
  refine SPL_nil ?_
  refine thenP_n ?_
  refine SP_cond_t rfl ?_
  refine SP_skip ?_
  refine thenP_n ?_
  refine SP_seq ?_
  refine SP_block ?_
  refine SP_seq ?_
  obtain ⟨ob, osp, rfl, hoc, hosp, rfl⟩ := ho.row (by omega)
  have hgl : g1 < t.order.length := by omega
  refine SP_region ?_
  refine SPL_y (y_load Tryz.isAgg239 rfl (by repeat (first | exact Cell.amid hpre rfl | exact Cell.head rfl | apply Cell.tail))) rfl ?_
  refine SPL_y (y_nil rfl) rfl ?_
  refine SPL_y (y_fa fld_245_0 rfl) rfl ?_
  refine SPL_y (y_load Tryz.isAgg240 rfl (by repeat (first | exact Cell.amid hpre rfl | exact Cell.head rfl | apply Cell.tail))) rfl ?_
  refine SPL_y (y_move rfl) rfl ?_
  refine SPL_y (y_ia Tryz.underlying240 Tryz.sizeOf257 rfl rfl (by omega)) rfl ?_
  refine SPL_y (y_loads Tryz.isAgg257 Tryz.sizeOf257 rfl rfl (by repeat (first | exact (flat_cellsE entV_len rfl hgl rfl) | apply Cells.tail))) rfl ?_
  refine SPL_one rfl (SP1_alloc Tryz.zeroValue257 rfl rfl ?_)
  intro b6
  refine SPL_one rfl (SP1_storeAll Tryz.sizeOf257 rfl rfl rfl rfl rfl (by first | exact U0 | exact U1 | exact U2 | exact U3 | exact U4 | exact U5 | exact U6 | exact U7 | exact U8 | exact U9 | exact U10 | exact U11 | exact U12 | exact U13 | exact U14 | exact U15 | exact U16 | exact U17 | exact U18 | exact U19 | exact U20 | exact U21 | exact U22 | exact U23) (by rfl) ?_)
  refine SPL_nil ?_
  refine thenP_n ?_
  refine SP_seq ?_
  refine SP_seq ?_
  refine SP_region ?_
  refine SPL_y (y_load Tryz.isAgg4 rfl (by repeat (first | exact Cell.amid hpre rfl | exact Cell.head rfl | apply Cell.tail))) rfl ?_
  refine SPL_y (y_not_t rfl) rfl ?_
  refine SPL_y (y_move rfl) rfl ?_
  refine SPL_gn rfl rfl rfl rfl ?_
  refine SPL_gn rfl rfl rfl rfl ?_
  refine SPL_gn rfl rfl rfl rfl ?_
  refine SPL_y (y_pick_f rfl rfl) rfl ?_
  refine SPL_nil ?_
  refine thenP_n ?_
  refine SP_cond_f rfl ?_
  refine SP_skip ?_
  refine thenP_n ?_
  refine SP_seq ?_
  refine SP_regionI ?_
  refine SPLi_y rfl (y_move rfl) rfl ?_
  refine SPLi_y rfl (y_move rfl) rfl ?_
  refine SPLi_y rfl (y_loads (vs := entV t.order[g1]) Tryz.isAgg257 Tryz.sizeOf257 rfl rfl (by repeat (first | exact Cells.all _ | exact Cells.amid hpre rfl (by decide) | exact Cells.head rfl | apply Cells.tail))) rfl ?_
  refine SPLi_yieldC (l := l) (r0 := r0) (args := [I ((g1 : Nat) : Int), .agg (entV t.order[g1]).toArray]) rfl rfl hps rfl (by first | exact P0 | exact P1 | exact P2 | exact P3 | exact P4 | exact P5 | exact P6 | exact P7 | exact P8 | exact P9 | exact P10 | exact P11 | exact P12 | exact P13 | exact P14 | exact P15 | exact P16 | exact P17 | exact P18 | exact P19 | exact P20 | exact P21 | exact P22 | exact P23) (roundC_part (HR := [sI g1]) (by repeat (first | exact Part.nil _ | (apply Part.cons; with_reducible (first | exact P0 | exact P1 | exact P2 | exact P3 | exact P4 | exact P5 | exact P6 | exact P7 | exact P8 | exact P9 | exact P10 | exact P11 | exact P12 | exact P13 | exact P14 | exact P15 | exact P16 | exact P17 | exact P18 | exact P19 | exact P20 | exact P21 | exact P22 | exact P23)) | (apply Part.flat; simp only [List.cons_append, List.nil_append]) | (apply Part.cons; (first | exact P0 | exact P1 | exact P2 | exact P3 | exact P4 | exact P5 | exact P6 | exact P7 | exact P8 | exact P9 | exact P10 | exact P11 | exact P12 | exact P13 | exact P14 | exact P15 | exact P16 | exact P17 | exact P18 | exact P19 | exact P20 | exact P21 | exact P22 | exact P23)) | (apply Part.nilc))) (hR g1 t.order[g1] (List.getElem?_eq_getElem hgl))) ?_
  rintro H2 rfl
  simp only [List.cons_append, List.nil_append]
  refine SPLi_y rfl (y_not_t rfl) rfl ?_
  refine SPLi_nil ?_
  refine thenP_n ?_
  refine SP_cond_f rfl ?_
  refine SP_skip ?_
  refine inBlockP_n ?_
  refine thenP_n ?_
  refine SP_region ?_
  refine SPL_y (y_move rfl) rfl ?_
  refine SPL_y (y_addE rfl rfl (c := ((g1 + 1 : Nat) : Int)) (by omega) (by omega)) rfl ?_
  refine SPL_y (y_assign rfl) rfl ?_
  refine SPL_nil ?_
  refine thenP_n ?_
  exact Again.intro (g1 + 1) ((by omega)) (by omega) (by repeat (first | exact Sub.nil _ | refine Sub.cons rfl ?_)) (by repeat (first | exact Part.nil _ | (apply Part.cons; with_reducible (first | exact P0 | exact P1 | exact P2 | exact P3 | exact P4 | exact P5 | exact P6 | exact P7 | exact P8 | exact P9 | exact P10 | exact P11 | exact P12 | exact P13 | exact P14 | exact P15 | exact P16 | exact P17 | exact P18 | exact P19 | exact P20 | exact P21 | exact P22 | exact P23)) | (apply Part.flat; simp only [List.cons_append, List.nil_append]) | (apply Part.cons; (first | exact P0 | exact P1 | exact P2 | exact P3 | exact P4 | exact P5 | exact P6 | exact P7 | exact P8 | exact P9 | exact P10 | exact P11 | exact P12 | exact P13 | exact P14 | exact P15 | exact P16 | exact P17 | exact P18 | exact P19 | exact P20 | exact P21 | exact P22 | exact P23)) | (apply Part.nilc)))

end Go.Sl
