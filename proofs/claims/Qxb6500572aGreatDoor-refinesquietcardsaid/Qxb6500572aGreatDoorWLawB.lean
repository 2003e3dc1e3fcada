/- Walks: the laws: Sound (made by program out of short notes) -/
import Derived.Test.Qxb6500572aGreatDoorAnsEq
namespace Go.Sl
open Go Go.Wl Go.Proofs
set_option maxRecDepth 100000
set_option linter.unusedVariables false
set_option linter.unusedSimpArgs false
/-- What 'Sound' asks. -/
structure SoundP (o : Op1) (a : Ans) (was is : List UInt8) (n : Int) (rs : List UInt8) : Prop where
  ref : a.e = 1 ∨ a.e = 8 ∨ a.e = 7 → a.n = 0 ∧ a.m = 0 ∧ a.s = [124] ∧ n = 0 ∧ is = was
  err : ¬ (a.e = 1 ∨ a.e = 8 ∨ a.e = 7) → a.e = 0 ∨ (11 ≤ a.e ∧ a.e < 18)
  fuel : 0 ≤ a.n ∧ (a.n ≤ o.b ∨ a.n ≤ 0)
  foot : ¬ (a.e = 1 ∨ a.e = 8 ∨ a.e = 7) → o.b ≤ 0 → a.n = 0 ∧ a.s = [124] ∧ is = was ∧ (a.e = 0 ∨ a.e = 17)
  trap : ¬ (a.e = 1 ∨ a.e = 8 ∨ a.e = 7) → a.e ≠ 0 → a.m = 0
  res : a.e = 0 → a.m = rs.length ∧ (rs = [] ∨ ∃ c r r', a.s = c :: r ∧ rs = c :: r')

theorem law_Sound (o : Op1) (a : Ans) (was is : List UInt8) (n : Int) (rs : List UInt8) (h : SoundP o a was is n rs) : Spec Tryz.prog 23 [.agg (opV o).toArray, .agg (ansV a).toArray, S was, S is, I n, S rs] [] (Ret fun v H => v = .bool true ∧ H = []) := by
  obtain ⟨ok, oa, ob, oc, os, ot⟩ := o
  obtain ⟨ae, an, am, asx⟩ := a
  obtain ⟨href, herr, hfu, hfoot, htrap, hres⟩ := h
  dsimp only at href herr hfu hfoot htrap hres
  simp only [opV, ansV]
  refine Spec_enter Tryz.func23 rfl Tryz.ntmps23 rfl ?_
  show SP _ _ _ _ _ [(0, _), (1, _), (2, _), (3, _), (4, _), (5, _)] _
  refine SP_seq ?_
  refine SP_region ?_
  refine SPL_one rfl (SP1_box rfl rfl rfl ?_)
  intro b6
  refine SPL_one rfl (SP1_box rfl rfl rfl ?_)
  intro b7
  refine SPL_y (y_assign rfl) rfl ?_
  refine SPL_nil ?_
  refine thenP_n ?_
  refine SP_seq ?_
  refine SP_seq ?_
  refine SP_region ?_
  refine SPL_y (y_fa fld_53_0 rfl) rfl ?_
  refine SPL_y (y_load Tryz.isAgg51 rfl (by repeat (first | exact Cell.head rfl | apply Cell.tail))) rfl ?_
  refine SPL_if (y_eql rfl rfl) rfl ?_ ?_
  · intro h1_2
    refine SPL_y (y_move rfl) rfl ?_
    refine SPL_gn rfl rfl rfl rfl ?_
    refine SPL_gn rfl rfl rfl rfl ?_
    refine SPL_gn rfl rfl rfl rfl ?_
    refine SPL_y (y_pick_t rfl rfl) rfl ?_
    refine SPL_y (y_move rfl) rfl ?_
    refine SPL_gn rfl rfl rfl rfl ?_
    refine SPL_gn rfl rfl rfl rfl ?_
    refine SPL_gn rfl rfl rfl rfl ?_
    refine SPL_y (y_pick_t rfl rfl) rfl ?_
    refine SPL_nil ?_
    refine thenP_n ?_
    refine SP_cond_t rfl ?_
    refine SP_seq ?_
    have hr := href (by omega)
    refine SP_region ?_
    refine SPL_y (y_loads Tryz.isAgg53 Tryz.sizeOf53 rfl rfl (by repeat (first | exact Cells.all _ | exact Cells.head rfl | apply Cells.tail))) rfl ?_
    refine SPL_y (y_fa fld_53_0 rfl) rfl ?_
    refine SPL_y (y_load Tryz.isAgg51 rfl (by repeat (first | exact Cell.head rfl | apply Cell.tail))) rfl ?_
    refine SPL_y (y_build B53 rfl rfl (by simp only [fillL, List.foldl_cons, List.foldl_nil, List.set_cons_zero, List.set_cons_succ]; exact rfl)) rfl ?_
    refine SPL_y (y_aeq (a := ⟨ae, an, am, asx⟩) (b := ⟨ae, 0, 0, [124]⟩) (p := True) rfl rfl ⟨fun _ => ⟨rfl, hr.1, hr.2.1, hr.2.2.1⟩, fun _ => trivial⟩) rfl ?_
    refine SPL_y (y_move rfl) rfl ?_
    refine SPL_gy rfl rfl ?_
    refine SPL_y (y_move rfl) rfl ?_
    refine SPL_gy rfl rfl ?_
    refine SPL_y (y_eqlT rfl rfl hr.2.2.2.1) rfl ?_
    refine SPL_y (y_pick_t rfl rfl) rfl ?_
    refine SPL_y (y_move rfl) rfl ?_
    refine SPL_gy rfl rfl ?_
    refine SPL_y (y_move rfl) rfl ?_
    refine SPL_gy rfl rfl ?_
    refine SPL_y (y_move rfl) rfl ?_
    refine SPL_gy rfl rfl ?_
    refine SPL_ifn (y_seq rfl rfl) rfl ?_ ?_
    · intro h2_12
      exact absurd hr.2.2.2.2 h2_12
    intro h2_12
    refine SPL_y (y_pick_t rfl rfl) rfl ?_
    refine SPL_y (y_assign rfl) rfl ?_
    refine SPL_nil ?_
    refine thenP_n ?_
    refine SP_ret ?_
    refine thenP_ret (bodyP_ret (H' := []) (Res1 rfl rfl) (by repeat (first | exact Part.nil _ | (apply Part.cons; (first | exact P0 | exact P1 | exact P2 | exact P3 | exact P4 | exact P5 | exact P6 | exact P7 | exact P8 | exact P9 | exact P10 | exact P11 | exact P12 | exact P13 | exact P14 | exact P15 | exact P16 | exact P17 | exact P18 | exact P19 | exact P20 | exact P21 | exact P22 | exact P23)) | (apply Part.flat; simp only [List.cons_append, List.nil_append]) | (apply Part.nilc))) ?_)
    exact ⟨rfl, rfl⟩
  intro h1_2
  refine SPL_y (y_move rfl) rfl ?_
  refine SPL_gy rfl rfl ?_
  refine SPL_y (y_fa fld_53_0 rfl) rfl ?_
  refine SPL_gy rfl rfl ?_
  refine SPL_y (y_load Tryz.isAgg51 rfl (by repeat (first | exact Cell.head rfl | apply Cell.tail))) rfl ?_
  refine SPL_gy rfl rfl ?_
  refine SPL_if (y_eql rfl rfl) rfl ?_ ?_
  · intro h1_6
    refine SPL_y (y_pick_f rfl rfl) rfl ?_
    refine SPL_y (y_move rfl) rfl ?_
    refine SPL_gn rfl rfl rfl rfl ?_
    refine SPL_gn rfl rfl rfl rfl ?_
    refine SPL_gn rfl rfl rfl rfl ?_
    refine SPL_y (y_pick_t rfl rfl) rfl ?_
    refine SPL_nil ?_
    refine thenP_n ?_
    refine SP_cond_t rfl ?_
    refine SP_seq ?_
    have hr := href (by omega)
    refine SP_region ?_
    refine SPL_y (y_loads Tryz.isAgg53 Tryz.sizeOf53 rfl rfl (by repeat (first | exact Cells.all _ | exact Cells.head rfl | apply Cells.tail))) rfl ?_
    refine SPL_y (y_fa fld_53_0 rfl) rfl ?_
    refine SPL_y (y_load Tryz.isAgg51 rfl (by repeat (first | exact Cell.head rfl | apply Cell.tail))) rfl ?_
    refine SPL_y (y_build B53 rfl rfl (by simp only [fillL, List.foldl_cons, List.foldl_nil, List.set_cons_zero, List.set_cons_succ]; exact rfl)) rfl ?_
    refine SPL_y (y_aeq (a := ⟨ae, an, am, asx⟩) (b := ⟨ae, 0, 0, [124]⟩) (p := True) rfl rfl ⟨fun _ => ⟨rfl, hr.1, hr.2.1, hr.2.2.1⟩, fun _ => trivial⟩) rfl ?_
    refine SPL_y (y_move rfl) rfl ?_
    refine SPL_gy rfl rfl ?_
    refine SPL_y (y_move rfl) rfl ?_
    refine SPL_gy rfl rfl ?_
    refine SPL_y (y_eqlT rfl rfl hr.2.2.2.1) rfl ?_
    refine SPL_y (y_pick_t rfl rfl) rfl ?_
    refine SPL_y (y_move rfl) rfl ?_
    refine SPL_gy rfl rfl ?_
    refine SPL_y (y_move rfl) rfl ?_
    refine SPL_gy rfl rfl ?_
    refine SPL_y (y_move rfl) rfl ?_
    refine SPL_gy rfl rfl ?_
    refine SPL_ifn (y_seq rfl rfl) rfl ?_ ?_
    · intro h2_12
      exact absurd hr.2.2.2.2 h2_12
    intro h2_12
    refine SPL_y (y_pick_t rfl rfl) rfl ?_
    refine SPL_y (y_assign rfl) rfl ?_
    refine SPL_nil ?_
    refine thenP_n ?_
    refine SP_ret ?_
    refine thenP_ret (bodyP_ret (H' := []) (Res1 rfl rfl) (by repeat (first | exact Part.nil _ | (apply Part.cons; (first | exact P0 | exact P1 | exact P2 | exact P3 | exact P4 | exact P5 | exact P6 | exact P7 | exact P8 | exact P9 | exact P10 | exact P11 | exact P12 | exact P13 | exact P14 | exact P15 | exact P16 | exact P17 | exact P18 | exact P19 | exact P20 | exact P21 | exact P22 | exact P23)) | (apply Part.flat; simp only [List.cons_append, List.nil_append]) | (apply Part.nilc))) ?_)
    exact ⟨rfl, rfl⟩
  intro h1_6
  refine SPL_y (y_pick_f rfl rfl) rfl ?_
  refine SPL_y (y_move rfl) rfl ?_
  refine SPL_gy rfl rfl ?_
  refine SPL_y (y_fa fld_53_0 rfl) rfl ?_
  refine SPL_gy rfl rfl ?_
  refine SPL_y (y_load Tryz.isAgg51 rfl (by repeat (first | exact Cell.head rfl | apply Cell.tail))) rfl ?_
  refine SPL_gy rfl rfl ?_
  refine SPL_if (y_eql rfl rfl) rfl ?_ ?_
  · intro h1_11
    refine SPL_y (y_pick_f rfl rfl) rfl ?_
    refine SPL_nil ?_
    refine thenP_n ?_
    refine SP_cond_t rfl ?_
    refine SP_seq ?_
    have hr := href (by omega)
    refine SP_region ?_
    refine SPL_y (y_loads Tryz.isAgg53 Tryz.sizeOf53 rfl rfl (by repeat (first | exact Cells.all _ | exact Cells.head rfl | apply Cells.tail))) rfl ?_
    refine SPL_y (y_fa fld_53_0 rfl) rfl ?_
    refine SPL_y (y_load Tryz.isAgg51 rfl (by repeat (first | exact Cell.head rfl | apply Cell.tail))) rfl ?_
    refine SPL_y (y_build B53 rfl rfl (by simp only [fillL, List.foldl_cons, List.foldl_nil, List.set_cons_zero, List.set_cons_succ]; exact rfl)) rfl ?_
    refine SPL_y (y_aeq (a := ⟨ae, an, am, asx⟩) (b := ⟨ae, 0, 0, [124]⟩) (p := True) rfl rfl ⟨fun _ => ⟨rfl, hr.1, hr.2.1, hr.2.2.1⟩, fun _ => trivial⟩) rfl ?_
    refine SPL_y (y_move rfl) rfl ?_
    refine SPL_gy rfl rfl ?_
    refine SPL_y (y_move rfl) rfl ?_
    refine SPL_gy rfl rfl ?_
    refine SPL_y (y_eqlT rfl rfl hr.2.2.2.1) rfl ?_
    refine SPL_y (y_pick_t rfl rfl) rfl ?_
    refine SPL_y (y_move rfl) rfl ?_
    refine SPL_gy rfl rfl ?_
    refine SPL_y (y_move rfl) rfl ?_
    refine SPL_gy rfl rfl ?_
    refine SPL_y (y_move rfl) rfl ?_
    refine SPL_gy rfl rfl ?_
    refine SPL_ifn (y_seq rfl rfl) rfl ?_ ?_
    · intro h2_12
      exact absurd hr.2.2.2.2 h2_12
    intro h2_12
    refine SPL_y (y_pick_t rfl rfl) rfl ?_
    refine SPL_y (y_assign rfl) rfl ?_
    refine SPL_nil ?_
    refine thenP_n ?_
    refine SP_ret ?_
    refine thenP_ret (bodyP_ret (H' := []) (Res1 rfl rfl) (by repeat (first | exact Part.nil _ | (apply Part.cons; (first | exact P0 | exact P1 | exact P2 | exact P3 | exact P4 | exact P5 | exact P6 | exact P7 | exact P8 | exact P9 | exact P10 | exact P11 | exact P12 | exact P13 | exact P14 | exact P15 | exact P16 | exact P17 | exact P18 | exact P19 | exact P20 | exact P21 | exact P22 | exact P23)) | (apply Part.flat; simp only [List.cons_append, List.nil_append]) | (apply Part.nilc))) ?_)
    exact ⟨rfl, rfl⟩
  intro h1_11
  refine SPL_y (y_pick_f rfl rfl) rfl ?_
  refine SPL_nil ?_
  refine thenP_n ?_
  refine SP_cond_f rfl ?_
  refine SP_skip ?_
  refine thenP_n ?_
  refine SP_seq ?_
  refine SP_seq ?_
  refine SP_region ?_
  refine SPL_y (y_fa fld_53_0 rfl) rfl ?_
  refine SPL_y (y_load Tryz.isAgg51 rfl (by repeat (first | exact Cell.head rfl | apply Cell.tail))) rfl ?_
  refine SPL_ifn (y_neq rfl rfl) rfl ?_ ?_
  · intro h3_2
    refine SPL_y (y_move rfl) rfl ?_
    refine SPL_gn rfl rfl rfl rfl ?_
    refine SPL_gn rfl rfl rfl rfl ?_
    refine SPL_gn rfl rfl rfl rfl ?_
    refine SPL_gn rfl rfl rfl rfl ?_
    refine SPL_gu rfl rfl rfl ?_
    refine SPL_gu rfl rfl rfl ?_
    refine SPL_gu rfl rfl rfl ?_
    refine SPL_gn rfl rfl rfl rfl ?_
    refine SPL_y (y_pick_f rfl rfl) rfl ?_
    refine SPL_nil ?_
    refine thenP_n ?_
    refine SP_cond_f rfl ?_
    refine SP_skip ?_
    refine thenP_n ?_
    refine SP_seq ?_
    refine SP_seq ?_
    refine SP_region ?_
    refine SPL_y (y_fa fld_53_1 rfl) rfl ?_
    refine SPL_y (y_load Tryz.isAgg3 rfl (by repeat (first | exact Cell.head rfl | apply Cell.tail))) rfl ?_
    refine SPL_if (y_lss rfl rfl) rfl ?_ ?_
    · intro h5_2
      omega
    intro h5_2
    refine SPL_y (y_move rfl) rfl ?_
    refine SPL_gy rfl rfl ?_
    refine SPL_y (y_fa fld_53_1 rfl) rfl ?_
    refine SPL_gy rfl rfl ?_
    refine SPL_y (y_load Tryz.isAgg3 rfl (by repeat (first | exact Cell.head rfl | apply Cell.tail))) rfl ?_
    refine SPL_gy rfl rfl ?_
    refine SPL_y (y_fa fld_43_2 rfl) rfl ?_
    refine SPL_gy rfl rfl ?_
    refine SPL_y (y_load Tryz.isAgg3 rfl (by repeat (first | exact Cell.head rfl | apply Cell.tail))) rfl ?_
    refine SPL_gy rfl rfl ?_
    refine SPL_ifn (y_gtr rfl rfl) rfl ?_ ?_
    · intro h5_8
      refine SPL_gy rfl rfl ?_
      refine SPL_y (y_move rfl) rfl ?_
      refine SPL_gn rfl rfl rfl rfl ?_
      refine SPL_gn rfl rfl rfl rfl ?_
      refine SPL_gn rfl rfl rfl rfl ?_
      refine SPL_gy rfl rfl ?_
      refine SPL_y (y_pick_f rfl rfl) rfl ?_
      refine SPL_y (y_pick_f rfl rfl) rfl ?_
      refine SPL_nil ?_
      refine thenP_n ?_
      refine SP_cond_f rfl ?_
      refine SP_skip ?_
      refine thenP_n ?_
      refine SP_seq ?_
      refine SP_seq ?_
      refine SP_region ?_
      refine SPL_y (y_fa fld_43_2 rfl) rfl ?_
      refine SPL_y (y_load Tryz.isAgg3 rfl (by repeat (first | exact Cell.head rfl | apply Cell.tail))) rfl ?_
      refine SPL_ifn (y_leq rfl rfl) rfl ?_ ?_
      · intro h7_2
        refine SPL_y (y_move rfl) rfl ?_
        refine SPL_gn rfl rfl rfl rfl ?_
        refine SPL_gn rfl rfl rfl rfl ?_
        refine SPL_gn rfl rfl rfl rfl ?_
        refine SPL_gn rfl rfl rfl rfl ?_
        refine SPL_gu rfl rfl rfl ?_
        refine SPL_gu rfl rfl rfl ?_
        refine SPL_gu rfl rfl rfl ?_
        refine SPL_gn rfl rfl rfl rfl ?_
        refine SPL_gn rfl rfl rfl rfl ?_
        refine SPL_gu rfl rfl rfl ?_
        refine SPL_gu rfl rfl rfl ?_
        refine SPL_gu rfl rfl rfl ?_
        refine SPL_gn rfl rfl rfl rfl ?_
        refine SPL_gn rfl rfl rfl rfl ?_
        refine SPL_gu rfl rfl rfl ?_
        refine SPL_gu rfl rfl rfl ?_
        refine SPL_gu rfl rfl rfl ?_
        refine SPL_gu rfl rfl rfl ?_
        refine SPL_gu rfl rfl rfl ?_
        refine SPL_gu rfl rfl rfl ?_
        refine SPL_gu rfl rfl rfl ?_
        refine SPL_gu rfl rfl rfl ?_
        refine SPL_gn rfl rfl rfl rfl ?_
        refine SPL_y (y_pick_f rfl rfl) rfl ?_
        refine SPL_nil ?_
        refine thenP_n ?_
        refine SP_cond_f rfl ?_
        refine SP_skip ?_
        refine thenP_n ?_
        refine SP_seq ?_
        refine SP_seq ?_
        refine SP_region ?_
        refine SPL_y (y_fa fld_53_0 rfl) rfl ?_
        refine SPL_y (y_load Tryz.isAgg51 rfl (by repeat (first | exact Cell.head rfl | apply Cell.tail))) rfl ?_
        refine SPL_if (y_neq rfl rfl) rfl ?_ ?_
        · intro h9_2
          refine SPL_nil ?_
          refine thenP_n ?_
          refine SP_cond_t rfl ?_
          refine SP_seq ?_
          refine SP_region ?_
          refine SPL_y (y_fa fld_53_2 rfl) rfl ?_
          refine SPL_y (y_load Tryz.isAgg3 rfl (by repeat (first | exact Cell.head rfl | apply Cell.tail))) rfl ?_
          refine SPL_y (y_eqlT rfl rfl (htrap (by omega) h9_2)) rfl ?_
          refine SPL_y (y_assign rfl) rfl ?_
          refine SPL_nil ?_
          refine thenP_n ?_
          refine SP_ret ?_
          refine thenP_ret (bodyP_ret (H' := []) (Res1 rfl rfl) (by repeat (first | exact Part.nil _ | (apply Part.cons; (first | exact P0 | exact P1 | exact P2 | exact P3 | exact P4 | exact P5 | exact P6 | exact P7 | exact P8 | exact P9 | exact P10 | exact P11 | exact P12 | exact P13 | exact P14 | exact P15 | exact P16 | exact P17 | exact P18 | exact P19 | exact P20 | exact P21 | exact P22 | exact P23)) | (apply Part.flat; simp only [List.cons_append, List.nil_append]) | (apply Part.nilc))) ?_)
          exact ⟨rfl, rfl⟩
        intro h9_2
        refine SPL_nil ?_
        refine thenP_n ?_
        refine SP_cond_f rfl ?_
        refine SP_skip ?_
        refine thenP_n ?_
        refine SP_seq ?_
        have h0 : ae = 0 := by omega
        refine SP_draw 999 [(0, 0), (2, 0), (3, 0), (1, 1), (4, 0), (5, 0), (6, 0), (7, 0), (8, 0), (9, 0), (12, 0), (13, 0), (10, 1), (11, 0), (14, 0), (15, 0), (16, 0), (17, 0)] mixed (by kernel_rfl) (fun _ _ _ _ _ h => h) (Part.refl _) ?_
        refine SPO_p rfl (y_fa fld_53_2 rfl) rfl ?_
        refine SPO_p rfl (y_move rfl) rfl ?_
        refine SPO_p rfl (y_len_s Tryz.underlying9 rfl) rfl ?_
        refine SPO_h rfl (y_load Tryz.isAgg3 rfl (by repeat (first | exact Cell.head rfl | apply Cell.tail))) rfl ?_
        refine SPO_p rfl (y_eqlT rfl rfl (hres h0).1) rfl ?_
        refine SPO_p rfl (y_move rfl) rfl ?_
        refine SPO_py rfl rfl rfl (y_move rfl) rfl ?_
        refine SPO_pyif rfl rfl rfl (y_seq0 rfl rfl) rfl ?_ ?_
        · intro h11_7
          refine SPO_py rfl rfl rfl (y_move rfl) rfl ?_
          refine SPO_gn (.inl rfl) rfl rfl rfl rfl rfl ?_
          refine SPO_gn (.inl rfl) rfl rfl rfl rfl rfl ?_
          refine SPO_gn (.inl rfl) rfl rfl rfl rfl rfl ?_
          refine SPO_gn (.inr rfl) rfl rfl rfl rfl rfl ?_
          refine SPO_gn (.inl rfl) rfl rfl rfl rfl rfl ?_
          refine SPO_gn (.inl rfl) rfl rfl rfl rfl rfl ?_
          refine SPO_py rfl rfl rfl (y_pick_t rfl rfl) rfl ?_
          refine SPO_p rfl (y_pick_t rfl rfl) rfl ?_
          refine SPO_p rfl (y_assign rfl) rfl ?_
          refine SPO_nil ?_
          refine thenP_n ?_
          refine SP_ret ?_
          refine bodyP_ret (H' := []) (Res1 rfl rfl) (by repeat (first | exact Part.nil _ | (apply Part.cons; (first | exact P0 | exact P1 | exact P2 | exact P3 | exact P4 | exact P5 | exact P6 | exact P7 | exact P8 | exact P9 | exact P10 | exact P11 | exact P12 | exact P13 | exact P14 | exact P15 | exact P16 | exact P17 | exact P18 | exact P19 | exact P20 | exact P21 | exact P22 | exact P23)) | (apply Part.flat; simp only [List.cons_append, List.nil_append]) | (apply Part.nilc))) ?_
          exact ⟨rfl, rfl⟩
        intro h11_7
        refine SPO_py rfl rfl rfl (y_move rfl) rfl ?_
        obtain ⟨c0, r0, r1, hs0, hr0⟩ := (hres h0).2.resolve_left (fun h => h11_7 (by rw [h]; rfl))
        have hc0 : (c0.toNat : Int) = c0.toNat := rfl
        refine SPO_py rfl rfl rfl (y_fa fld_53_3 rfl) rfl ?_
        refine SPO_py rfl rfl rfl (y_move rfl) rfl ?_
        refine SPO_py rfl rfl rfl (y_idx_s Tryz.underlying9 rfl rfl (by omega) (c := c0) (by rw [hr0]; rfl)) rfl ?_
        refine SPO_hy rfl rfl rfl (y_load Tryz.isAgg9 rfl (by repeat (first | exact Cell.head rfl | apply Cell.tail))) rfl ?_
        refine SPO_py rfl rfl rfl (y_idx_s Tryz.underlying9 rfl rfl (by omega) (c := c0) (by rw [hs0]; rfl)) rfl ?_
        refine SPO_py rfl rfl rfl (y_eqlT rfl rfl hc0) rfl ?_
        refine SPO_py rfl rfl rfl (y_pick_f rfl rfl) rfl ?_
        refine SPO_p rfl (y_pick_t rfl rfl) rfl ?_
        refine SPO_p rfl (y_assign rfl) rfl ?_
        refine SPO_nil ?_
        refine thenP_n ?_
        refine SP_ret ?_
        refine bodyP_ret (H' := []) (Res1 rfl rfl) (by repeat (first | exact Part.nil _ | (apply Part.cons; (first | exact P0 | exact P1 | exact P2 | exact P3 | exact P4 | exact P5 | exact P6 | exact P7 | exact P8 | exact P9 | exact P10 | exact P11 | exact P12 | exact P13 | exact P14 | exact P15 | exact P16 | exact P17 | exact P18 | exact P19 | exact P20 | exact P21 | exact P22 | exact P23)) | (apply Part.flat; simp only [List.cons_append, List.nil_append]) | (apply Part.nilc))) ?_
        exact ⟨rfl, rfl⟩
      intro h7_2
      refine SPL_y (y_move rfl) rfl ?_
      refine SPL_gy rfl rfl ?_
      refine SPL_y (y_fa fld_53_1 rfl) rfl ?_
      refine SPL_gy rfl rfl ?_
      refine SPL_y (y_load Tryz.isAgg3 rfl (by repeat (first | exact Cell.head rfl | apply Cell.tail))) rfl ?_
      refine SPL_gy rfl rfl ?_
      refine SPL_if (y_neq rfl rfl) rfl ?_ ?_
      · intro h7_6
        have := hfoot (by omega) (by omega); omega
      intro h7_6
      refine SPL_gy rfl rfl ?_
      refine SPL_y (y_move rfl) rfl ?_
      refine SPL_gy rfl rfl ?_
      refine SPL_y (y_fa fld_53_3 rfl) rfl ?_
      refine SPL_gy rfl rfl ?_
      refine SPL_y (y_load Tryz.isAgg9 rfl (by repeat (first | exact Cell.head rfl | apply Cell.tail))) rfl ?_
      refine SPL_gy rfl rfl ?_
      refine SPL_if (y_sne rfl rfl) rfl ?_ ?_
      · intro h7_10
        exact absurd (hfoot (by omega) (by omega)).2.1 h7_10
      intro h7_10
      refine SPL_gy rfl rfl ?_
      refine SPL_y (y_pick_f rfl rfl) rfl ?_
      refine SPL_gy rfl rfl ?_
      refine SPL_y (y_move rfl) rfl ?_
      refine SPL_gy rfl rfl ?_
      refine SPL_y (y_move rfl) rfl ?_
      refine SPL_gy rfl rfl ?_
      refine SPL_y (y_move rfl) rfl ?_
      refine SPL_gy rfl rfl ?_
      refine SPL_if (y_sne rfl rfl) rfl ?_ ?_
      · intro h7_15
        exact absurd (hfoot (by omega) (by omega)).2.2.1 h7_15
      intro h7_15
      refine SPL_gy rfl rfl ?_
      refine SPL_y (y_pick_f rfl rfl) rfl ?_
      refine SPL_gy rfl rfl ?_
      refine SPL_y (y_move rfl) rfl ?_
      refine SPL_gy rfl rfl ?_
      refine SPL_y (y_fa fld_53_0 rfl) rfl ?_
      refine SPL_gy rfl rfl ?_
      refine SPL_y (y_load Tryz.isAgg51 rfl (by repeat (first | exact Cell.head rfl | apply Cell.tail))) rfl ?_
      refine SPL_gy rfl rfl ?_
      refine SPL_ifn (y_neq rfl rfl) rfl ?_ ?_
      · intro h7_20
        refine SPL_gy rfl rfl ?_
        refine SPL_y (y_move rfl) rfl ?_
        refine SPL_gn rfl rfl rfl rfl ?_
        refine SPL_gn rfl rfl rfl rfl ?_
        refine SPL_gn rfl rfl rfl rfl ?_
        refine SPL_gy rfl rfl ?_
        refine SPL_y (y_pick_f rfl rfl) rfl ?_
        refine SPL_gy rfl rfl ?_
        refine SPL_y (y_pick_f rfl rfl) rfl ?_
        refine SPL_y (y_pick_t rfl rfl) rfl ?_
        refine SPL_nil ?_
        refine thenP_n ?_
        refine SP_cond_f rfl ?_
        refine SP_skip ?_
        refine thenP_n ?_
        refine SP_seq ?_
        refine SP_seq ?_
        refine SP_region ?_
        refine SPL_y (y_fa fld_53_0 rfl) rfl ?_
        refine SPL_y (y_load Tryz.isAgg51 rfl (by repeat (first | exact Cell.head rfl | apply Cell.tail))) rfl ?_
        refine SPL_if (y_neq rfl rfl) rfl ?_ ?_
        · intro h9_2
          refine SPL_nil ?_
          refine thenP_n ?_
          refine SP_cond_t rfl ?_
          refine SP_seq ?_
          refine SP_region ?_
          refine SPL_y (y_fa fld_53_2 rfl) rfl ?_
          refine SPL_y (y_load Tryz.isAgg3 rfl (by repeat (first | exact Cell.head rfl | apply Cell.tail))) rfl ?_
          refine SPL_y (y_eqlT rfl rfl (htrap (by omega) h9_2)) rfl ?_
          refine SPL_y (y_assign rfl) rfl ?_
          refine SPL_nil ?_
          refine thenP_n ?_
          refine SP_ret ?_
          refine thenP_ret (bodyP_ret (H' := []) (Res1 rfl rfl) (by repeat (first | exact Part.nil _ | (apply Part.cons; (first | exact P0 | exact P1 | exact P2 | exact P3 | exact P4 | exact P5 | exact P6 | exact P7 | exact P8 | exact P9 | exact P10 | exact P11 | exact P12 | exact P13 | exact P14 | exact P15 | exact P16 | exact P17 | exact P18 | exact P19 | exact P20 | exact P21 | exact P22 | exact P23)) | (apply Part.flat; simp only [List.cons_append, List.nil_append]) | (apply Part.nilc))) ?_)
          exact ⟨rfl, rfl⟩
        intro h9_2
        refine SPL_nil ?_
        refine thenP_n ?_
        refine SP_cond_f rfl ?_
        refine SP_skip ?_
        refine thenP_n ?_
        refine SP_seq ?_
        have h0 : ae = 0 := by omega
        refine SP_draw 999 [(0, 0), (2, 0), (3, 0), (1, 1), (4, 0), (5, 0), (6, 0), (7, 0), (8, 0), (9, 0), (12, 0), (13, 0), (10, 1), (11, 0), (14, 0), (15, 0), (16, 0), (17, 0)] mixed (by kernel_rfl) (fun _ _ _ _ _ h => h) (Part.refl _) ?_
        refine SPO_p rfl (y_fa fld_53_2 rfl) rfl ?_
        refine SPO_p rfl (y_move rfl) rfl ?_
        refine SPO_p rfl (y_len_s Tryz.underlying9 rfl) rfl ?_
        refine SPO_h rfl (y_load Tryz.isAgg3 rfl (by repeat (first | exact Cell.head rfl | apply Cell.tail))) rfl ?_
        refine SPO_p rfl (y_eqlT rfl rfl (hres h0).1) rfl ?_
        refine SPO_p rfl (y_move rfl) rfl ?_
        refine SPO_py rfl rfl rfl (y_move rfl) rfl ?_
        refine SPO_pyif rfl rfl rfl (y_seq0 rfl rfl) rfl ?_ ?_
        · intro h11_7
          refine SPO_py rfl rfl rfl (y_move rfl) rfl ?_
          refine SPO_gn (.inl rfl) rfl rfl rfl rfl rfl ?_
          refine SPO_gn (.inl rfl) rfl rfl rfl rfl rfl ?_
          refine SPO_gn (.inl rfl) rfl rfl rfl rfl rfl ?_
          refine SPO_gn (.inr rfl) rfl rfl rfl rfl rfl ?_
          refine SPO_gn (.inl rfl) rfl rfl rfl rfl rfl ?_
          refine SPO_gn (.inl rfl) rfl rfl rfl rfl rfl ?_
          refine SPO_py rfl rfl rfl (y_pick_t rfl rfl) rfl ?_
          refine SPO_p rfl (y_pick_t rfl rfl) rfl ?_
          refine SPO_p rfl (y_assign rfl) rfl ?_
          refine SPO_nil ?_
          refine thenP_n ?_
          refine SP_ret ?_
          refine bodyP_ret (H' := []) (Res1 rfl rfl) (by repeat (first | exact Part.nil _ | (apply Part.cons; (first | exact P0 | exact P1 | exact P2 | exact P3 | exact P4 | exact P5 | exact P6 | exact P7 | exact P8 | exact P9 | exact P10 | exact P11 | exact P12 | exact P13 | exact P14 | exact P15 | exact P16 | exact P17 | exact P18 | exact P19 | exact P20 | exact P21 | exact P22 | exact P23)) | (apply Part.flat; simp only [List.cons_append, List.nil_append]) | (apply Part.nilc))) ?_
          exact ⟨rfl, rfl⟩
        intro h11_7
        refine SPO_py rfl rfl rfl (y_move rfl) rfl ?_
        obtain ⟨c0, r0, r1, hs0, hr0⟩ := (hres h0).2.resolve_left (fun h => h11_7 (by rw [h]; rfl))
        have hc0 : (c0.toNat : Int) = c0.toNat := rfl
        refine SPO_py rfl rfl rfl (y_fa fld_53_3 rfl) rfl ?_
        refine SPO_py rfl rfl rfl (y_move rfl) rfl ?_
        refine SPO_py rfl rfl rfl (y_idx_s Tryz.underlying9 rfl rfl (by omega) (c := c0) (by rw [hr0]; rfl)) rfl ?_
        refine SPO_hy rfl rfl rfl (y_load Tryz.isAgg9 rfl (by repeat (first | exact Cell.head rfl | apply Cell.tail))) rfl ?_
        refine SPO_py rfl rfl rfl (y_idx_s Tryz.underlying9 rfl rfl (by omega) (c := c0) (by rw [hs0]; rfl)) rfl ?_
        refine SPO_py rfl rfl rfl (y_eqlT rfl rfl hc0) rfl ?_
        refine SPO_py rfl rfl rfl (y_pick_f rfl rfl) rfl ?_
        refine SPO_p rfl (y_pick_t rfl rfl) rfl ?_
        refine SPO_p rfl (y_assign rfl) rfl ?_
        refine SPO_nil ?_
        refine thenP_n ?_
        refine SP_ret ?_
        refine bodyP_ret (H' := []) (Res1 rfl rfl) (by repeat (first | exact Part.nil _ | (apply Part.cons; (first | exact P0 | exact P1 | exact P2 | exact P3 | exact P4 | exact P5 | exact P6 | exact P7 | exact P8 | exact P9 | exact P10 | exact P11 | exact P12 | exact P13 | exact P14 | exact P15 | exact P16 | exact P17 | exact P18 | exact P19 | exact P20 | exact P21 | exact P22 | exact P23)) | (apply Part.flat; simp only [List.cons_append, List.nil_append]) | (apply Part.nilc))) ?_
        exact ⟨rfl, rfl⟩
      intro h7_20
      refine SPL_gy rfl rfl ?_
      refine SPL_y (y_move rfl) rfl ?_
      refine SPL_gy rfl rfl ?_
      refine SPL_y (y_fa fld_53_0 rfl) rfl ?_
      refine SPL_gy rfl rfl ?_
      refine SPL_y (y_load Tryz.isAgg51 rfl (by repeat (first | exact Cell.head rfl | apply Cell.tail))) rfl ?_
      refine SPL_gy rfl rfl ?_
      refine SPL_if (y_neq rfl rfl) rfl ?_ ?_
      · intro h7_24
        have := (hfoot (by omega) (by omega)).2.2.2; omega
      intro h7_24
      refine SPL_gy rfl rfl ?_
      refine SPL_y (y_pick_t rfl rfl) rfl ?_
      refine SPL_gy rfl rfl ?_
      refine SPL_y (y_pick_f rfl rfl) rfl ?_
      refine SPL_y (y_pick_t rfl rfl) rfl ?_
      refine SPL_nil ?_
      refine thenP_n ?_
      refine SP_cond_f rfl ?_
      refine SP_skip ?_
      refine thenP_n ?_
      refine SP_seq ?_
      refine SP_seq ?_
      refine SP_region ?_
      refine SPL_y (y_fa fld_53_0 rfl) rfl ?_
      refine SPL_y (y_load Tryz.isAgg51 rfl (by repeat (first | exact Cell.head rfl | apply Cell.tail))) rfl ?_
      refine SPL_if (y_neq rfl rfl) rfl ?_ ?_
      · intro h9_2
        refine SPL_nil ?_
        refine thenP_n ?_
        refine SP_cond_t rfl ?_
        refine SP_seq ?_
        refine SP_region ?_
        refine SPL_y (y_fa fld_53_2 rfl) rfl ?_
        refine SPL_y (y_load Tryz.isAgg3 rfl (by repeat (first | exact Cell.head rfl | apply Cell.tail))) rfl ?_
        refine SPL_y (y_eqlT rfl rfl (htrap (by omega) h9_2)) rfl ?_
        refine SPL_y (y_assign rfl) rfl ?_
        refine SPL_nil ?_
        refine thenP_n ?_
        refine SP_ret ?_
        refine thenP_ret (bodyP_ret (H' := []) (Res1 rfl rfl) (by repeat (first | exact Part.nil _ | (apply Part.cons; (first | exact P0 | exact P1 | exact P2 | exact P3 | exact P4 | exact P5 | exact P6 | exact P7 | exact P8 | exact P9 | exact P10 | exact P11 | exact P12 | exact P13 | exact P14 | exact P15 | exact P16 | exact P17 | exact P18 | exact P19 | exact P20 | exact P21 | exact P22 | exact P23)) | (apply Part.flat; simp only [List.cons_append, List.nil_append]) | (apply Part.nilc))) ?_)
        exact ⟨rfl, rfl⟩
      intro h9_2
      refine SPL_nil ?_
      refine thenP_n ?_
      refine SP_cond_f rfl ?_
      refine SP_skip ?_
      refine thenP_n ?_
      refine SP_seq ?_
      have h0 : ae = 0 := by omega
      refine SP_draw 999 [(0, 0), (2, 0), (3, 0), (1, 1), (4, 0), (5, 0), (6, 0), (7, 0), (8, 0), (9, 0), (12, 0), (13, 0), (10, 1), (11, 0), (14, 0), (15, 0), (16, 0), (17, 0)] mixed (by kernel_rfl) (fun _ _ _ _ _ h => h) (Part.refl _) ?_
      refine SPO_p rfl (y_fa fld_53_2 rfl) rfl ?_
      refine SPO_p rfl (y_move rfl) rfl ?_
      refine SPO_p rfl (y_len_s Tryz.underlying9 rfl) rfl ?_
      refine SPO_h rfl (y_load Tryz.isAgg3 rfl (by repeat (first | exact Cell.head rfl | apply Cell.tail))) rfl ?_
      refine SPO_p rfl (y_eqlT rfl rfl (hres h0).1) rfl ?_
      refine SPO_p rfl (y_move rfl) rfl ?_
      refine SPO_py rfl rfl rfl (y_move rfl) rfl ?_
      refine SPO_pyif rfl rfl rfl (y_seq0 rfl rfl) rfl ?_ ?_
      · intro h11_7
        refine SPO_py rfl rfl rfl (y_move rfl) rfl ?_
        refine SPO_gn (.inl rfl) rfl rfl rfl rfl rfl ?_
        refine SPO_gn (.inl rfl) rfl rfl rfl rfl rfl ?_
        refine SPO_gn (.inl rfl) rfl rfl rfl rfl rfl ?_
        refine SPO_gn (.inr rfl) rfl rfl rfl rfl rfl ?_
        refine SPO_gn (.inl rfl) rfl rfl rfl rfl rfl ?_
        refine SPO_gn (.inl rfl) rfl rfl rfl rfl rfl ?_
        refine SPO_py rfl rfl rfl (y_pick_t rfl rfl) rfl ?_
        refine SPO_p rfl (y_pick_t rfl rfl) rfl ?_
        refine SPO_p rfl (y_assign rfl) rfl ?_
        refine SPO_nil ?_
        refine thenP_n ?_
        refine SP_ret ?_
        refine bodyP_ret (H' := []) (Res1 rfl rfl) (by repeat (first | exact Part.nil _ | (apply Part.cons; (first | exact P0 | exact P1 | exact P2 | exact P3 | exact P4 | exact P5 | exact P6 | exact P7 | exact P8 | exact P9 | exact P10 | exact P11 | exact P12 | exact P13 | exact P14 | exact P15 | exact P16 | exact P17 | exact P18 | exact P19 | exact P20 | exact P21 | exact P22 | exact P23)) | (apply Part.flat; simp only [List.cons_append, List.nil_append]) | (apply Part.nilc))) ?_
        exact ⟨rfl, rfl⟩
      intro h11_7
      refine SPO_py rfl rfl rfl (y_move rfl) rfl ?_
      obtain ⟨c0, r0, r1, hs0, hr0⟩ := (hres h0).2.resolve_left (fun h => h11_7 (by rw [h]; rfl))
      have hc0 : (c0.toNat : Int) = c0.toNat := rfl
      refine SPO_py rfl rfl rfl (y_fa fld_53_3 rfl) rfl ?_
      refine SPO_py rfl rfl rfl (y_move rfl) rfl ?_
      refine SPO_py rfl rfl rfl (y_idx_s Tryz.underlying9 rfl rfl (by omega) (c := c0) (by rw [hr0]; rfl)) rfl ?_
      refine SPO_hy rfl rfl rfl (y_load Tryz.isAgg9 rfl (by repeat (first | exact Cell.head rfl | apply Cell.tail))) rfl ?_
      refine SPO_py rfl rfl rfl (y_idx_s Tryz.underlying9 rfl rfl (by omega) (c := c0) (by rw [hs0]; rfl)) rfl ?_
      refine SPO_py rfl rfl rfl (y_eqlT rfl rfl hc0) rfl ?_
      refine SPO_py rfl rfl rfl (y_pick_f rfl rfl) rfl ?_
      refine SPO_p rfl (y_pick_t rfl rfl) rfl ?_
      refine SPO_p rfl (y_assign rfl) rfl ?_
      refine SPO_nil ?_
      refine thenP_n ?_
      refine SP_ret ?_
      refine bodyP_ret (H' := []) (Res1 rfl rfl) (by repeat (first | exact Part.nil _ | (apply Part.cons; (first | exact P0 | exact P1 | exact P2 | exact P3 | exact P4 | exact P5 | exact P6 | exact P7 | exact P8 | exact P9 | exact P10 | exact P11 | exact P12 | exact P13 | exact P14 | exact P15 | exact P16 | exact P17 | exact P18 | exact P19 | exact P20 | exact P21 | exact P22 | exact P23)) | (apply Part.flat; simp only [List.cons_append, List.nil_append]) | (apply Part.nilc))) ?_
      exact ⟨rfl, rfl⟩
    intro h5_8
    refine SPL_gy rfl rfl ?_
    refine SPL_y (y_move rfl) rfl ?_
    refine SPL_gy rfl rfl ?_
    refine SPL_y (y_fa fld_53_1 rfl) rfl ?_
    refine SPL_gy rfl rfl ?_
    refine SPL_y (y_load Tryz.isAgg3 rfl (by repeat (first | exact Cell.head rfl | apply Cell.tail))) rfl ?_
    refine SPL_gy rfl rfl ?_
    refine SPL_if (y_gtr rfl rfl) rfl ?_ ?_
    · intro h5_12
      omega
    intro h5_12
    refine SPL_gy rfl rfl ?_
    refine SPL_y (y_pick_t rfl rfl) rfl ?_
    refine SPL_y (y_pick_f rfl rfl) rfl ?_
    refine SPL_nil ?_
    refine thenP_n ?_
    refine SP_cond_f rfl ?_
    refine SP_skip ?_
    refine thenP_n ?_
    refine SP_seq ?_
    refine SP_seq ?_
    refine SP_region ?_
    refine SPL_y (y_fa fld_43_2 rfl) rfl ?_
    refine SPL_y (y_load Tryz.isAgg3 rfl (by repeat (first | exact Cell.head rfl | apply Cell.tail))) rfl ?_
    refine SPL_ifn (y_leq rfl rfl) rfl ?_ ?_
    · intro h7_2
      refine SPL_y (y_move rfl) rfl ?_
      refine SPL_gn rfl rfl rfl rfl ?_
      refine SPL_gn rfl rfl rfl rfl ?_
      refine SPL_gn rfl rfl rfl rfl ?_
      refine SPL_gn rfl rfl rfl rfl ?_
      refine SPL_gu rfl rfl rfl ?_
      refine SPL_gu rfl rfl rfl ?_
      refine SPL_gu rfl rfl rfl ?_
      refine SPL_gn rfl rfl rfl rfl ?_
      refine SPL_gn rfl rfl rfl rfl ?_
      refine SPL_gu rfl rfl rfl ?_
      refine SPL_gu rfl rfl rfl ?_
      refine SPL_gu rfl rfl rfl ?_
      refine SPL_gn rfl rfl rfl rfl ?_
      refine SPL_gn rfl rfl rfl rfl ?_
      refine SPL_gu rfl rfl rfl ?_
      refine SPL_gu rfl rfl rfl ?_
      refine SPL_gu rfl rfl rfl ?_
      refine SPL_gu rfl rfl rfl ?_
      refine SPL_gu rfl rfl rfl ?_
      refine SPL_gu rfl rfl rfl ?_
      refine SPL_gu rfl rfl rfl ?_
      refine SPL_gu rfl rfl rfl ?_
      refine SPL_gn rfl rfl rfl rfl ?_
      refine SPL_y (y_pick_f rfl rfl) rfl ?_
      refine SPL_nil ?_
      refine thenP_n ?_
      refine SP_cond_f rfl ?_
      refine SP_skip ?_
      refine thenP_n ?_
      refine SP_seq ?_
      refine SP_seq ?_
      refine SP_region ?_
      refine SPL_y (y_fa fld_53_0 rfl) rfl ?_
      refine SPL_y (y_load Tryz.isAgg51 rfl (by repeat (first | exact Cell.head rfl | apply Cell.tail))) rfl ?_
      refine SPL_if (y_neq rfl rfl) rfl ?_ ?_
      · intro h9_2
        refine SPL_nil ?_
        refine thenP_n ?_
        refine SP_cond_t rfl ?_
        refine SP_seq ?_
        refine SP_region ?_
        refine SPL_y (y_fa fld_53_2 rfl) rfl ?_
        refine SPL_y (y_load Tryz.isAgg3 rfl (by repeat (first | exact Cell.head rfl | apply Cell.tail))) rfl ?_
        refine SPL_y (y_eqlT rfl rfl (htrap (by omega) h9_2)) rfl ?_
        refine SPL_y (y_assign rfl) rfl ?_
        refine SPL_nil ?_
        refine thenP_n ?_
        refine SP_ret ?_
        refine thenP_ret (bodyP_ret (H' := []) (Res1 rfl rfl) (by repeat (first | exact Part.nil _ | (apply Part.cons; (first | exact P0 | exact P1 | exact P2 | exact P3 | exact P4 | exact P5 | exact P6 | exact P7 | exact P8 | exact P9 | exact P10 | exact P11 | exact P12 | exact P13 | exact P14 | exact P15 | exact P16 | exact P17 | exact P18 | exact P19 | exact P20 | exact P21 | exact P22 | exact P23)) | (apply Part.flat; simp only [List.cons_append, List.nil_append]) | (apply Part.nilc))) ?_)
        exact ⟨rfl, rfl⟩
      intro h9_2
      refine SPL_nil ?_
      refine thenP_n ?_
      refine SP_cond_f rfl ?_
      refine SP_skip ?_
      refine thenP_n ?_
      refine SP_seq ?_
      have h0 : ae = 0 := by omega
      refine SP_draw 999 [(0, 0), (2, 0), (3, 0), (1, 1), (4, 0), (5, 0), (6, 0), (7, 0), (8, 0), (9, 0), (12, 0), (13, 0), (10, 1), (11, 0), (14, 0), (15, 0), (16, 0), (17, 0)] mixed (by kernel_rfl) (fun _ _ _ _ _ h => h) (Part.refl _) ?_
      refine SPO_p rfl (y_fa fld_53_2 rfl) rfl ?_
      refine SPO_p rfl (y_move rfl) rfl ?_
      refine SPO_p rfl (y_len_s Tryz.underlying9 rfl) rfl ?_
      refine SPO_h rfl (y_load Tryz.isAgg3 rfl (by repeat (first | exact Cell.head rfl | apply Cell.tail))) rfl ?_
      refine SPO_p rfl (y_eqlT rfl rfl (hres h0).1) rfl ?_
      refine SPO_p rfl (y_move rfl) rfl ?_
      refine SPO_py rfl rfl rfl (y_move rfl) rfl ?_
      refine SPO_pyif rfl rfl rfl (y_seq0 rfl rfl) rfl ?_ ?_
      · intro h11_7
        refine SPO_py rfl rfl rfl (y_move rfl) rfl ?_
        refine SPO_gn (.inl rfl) rfl rfl rfl rfl rfl ?_
        refine SPO_gn (.inl rfl) rfl rfl rfl rfl rfl ?_
        refine SPO_gn (.inl rfl) rfl rfl rfl rfl rfl ?_
        refine SPO_gn (.inr rfl) rfl rfl rfl rfl rfl ?_
        refine SPO_gn (.inl rfl) rfl rfl rfl rfl rfl ?_
        refine SPO_gn (.inl rfl) rfl rfl rfl rfl rfl ?_
        refine SPO_py rfl rfl rfl (y_pick_t rfl rfl) rfl ?_
        refine SPO_p rfl (y_pick_t rfl rfl) rfl ?_
        refine SPO_p rfl (y_assign rfl) rfl ?_
        refine SPO_nil ?_
        refine thenP_n ?_
        refine SP_ret ?_
        refine bodyP_ret (H' := []) (Res1 rfl rfl) (by repeat (first | exact Part.nil _ | (apply Part.cons; (first | exact P0 | exact P1 | exact P2 | exact P3 | exact P4 | exact P5 | exact P6 | exact P7 | exact P8 | exact P9 | exact P10 | exact P11 | exact P12 | exact P13 | exact P14 | exact P15 | exact P16 | exact P17 | exact P18 | exact P19 | exact P20 | exact P21 | exact P22 | exact P23)) | (apply Part.flat; simp only [List.cons_append, List.nil_append]) | (apply Part.nilc))) ?_
        exact ⟨rfl, rfl⟩
      intro h11_7
      refine SPO_py rfl rfl rfl (y_move rfl) rfl ?_
      obtain ⟨c0, r0, r1, hs0, hr0⟩ := (hres h0).2.resolve_left (fun h => h11_7 (by rw [h]; rfl))
      have hc0 : (c0.toNat : Int) = c0.toNat := rfl
      refine SPO_py rfl rfl rfl (y_fa fld_53_3 rfl) rfl ?_
      refine SPO_py rfl rfl rfl (y_move rfl) rfl ?_
      refine SPO_py rfl rfl rfl (y_idx_s Tryz.underlying9 rfl rfl (by omega) (c := c0) (by rw [hr0]; rfl)) rfl ?_
      refine SPO_hy rfl rfl rfl (y_load Tryz.isAgg9 rfl (by repeat (first | exact Cell.head rfl | apply Cell.tail))) rfl ?_
      refine SPO_py rfl rfl rfl (y_idx_s Tryz.underlying9 rfl rfl (by omega) (c := c0) (by rw [hs0]; rfl)) rfl ?_
      refine SPO_py rfl rfl rfl (y_eqlT rfl rfl hc0) rfl ?_
      refine SPO_py rfl rfl rfl (y_pick_f rfl rfl) rfl ?_
      refine SPO_p rfl (y_pick_t rfl rfl) rfl ?_
      refine SPO_p rfl (y_assign rfl) rfl ?_
      refine SPO_nil ?_
      refine thenP_n ?_
      refine SP_ret ?_
      refine bodyP_ret (H' := []) (Res1 rfl rfl) (by repeat (first | exact Part.nil _ | (apply Part.cons; (first | exact P0 | exact P1 | exact P2 | exact P3 | exact P4 | exact P5 | exact P6 | exact P7 | exact P8 | exact P9 | exact P10 | exact P11 | exact P12 | exact P13 | exact P14 | exact P15 | exact P16 | exact P17 | exact P18 | exact P19 | exact P20 | exact P21 | exact P22 | exact P23)) | (apply Part.flat; simp only [List.cons_append, List.nil_append]) | (apply Part.nilc))) ?_
      exact ⟨rfl, rfl⟩
    intro h7_2
    refine SPL_y (y_move rfl) rfl ?_
    refine SPL_gy rfl rfl ?_
    refine SPL_y (y_fa fld_53_1 rfl) rfl ?_
    refine SPL_gy rfl rfl ?_
    refine SPL_y (y_load Tryz.isAgg3 rfl (by repeat (first | exact Cell.head rfl | apply Cell.tail))) rfl ?_
    refine SPL_gy rfl rfl ?_
    refine SPL_if (y_neq rfl rfl) rfl ?_ ?_
    · intro h7_6
      have := hfoot (by omega) (by omega); omega
    intro h7_6
    refine SPL_gy rfl rfl ?_
    refine SPL_y (y_move rfl) rfl ?_
    refine SPL_gy rfl rfl ?_
    refine SPL_y (y_fa fld_53_3 rfl) rfl ?_
    refine SPL_gy rfl rfl ?_
    refine SPL_y (y_load Tryz.isAgg9 rfl (by repeat (first | exact Cell.head rfl | apply Cell.tail))) rfl ?_
    refine SPL_gy rfl rfl ?_
    refine SPL_if (y_sne rfl rfl) rfl ?_ ?_
    · intro h7_10
      exact absurd (hfoot (by omega) (by omega)).2.1 h7_10
    intro h7_10
    refine SPL_gy rfl rfl ?_
    refine SPL_y (y_pick_f rfl rfl) rfl ?_
    refine SPL_gy rfl rfl ?_
    refine SPL_y (y_move rfl) rfl ?_
    refine SPL_gy rfl rfl ?_
    refine SPL_y (y_move rfl) rfl ?_
    refine SPL_gy rfl rfl ?_
    refine SPL_y (y_move rfl) rfl ?_
    refine SPL_gy rfl rfl ?_
    refine SPL_if (y_sne rfl rfl) rfl ?_ ?_
    · intro h7_15
      exact absurd (hfoot (by omega) (by omega)).2.2.1 h7_15
    intro h7_15
    refine SPL_gy rfl rfl ?_
    refine SPL_y (y_pick_f rfl rfl) rfl ?_
    refine SPL_gy rfl rfl ?_
    refine SPL_y (y_move rfl) rfl ?_
    refine SPL_gy rfl rfl ?_
    refine SPL_y (y_fa fld_53_0 rfl) rfl ?_
    refine SPL_gy rfl rfl ?_
    refine SPL_y (y_load Tryz.isAgg51 rfl (by repeat (first | exact Cell.head rfl | apply Cell.tail))) rfl ?_
    refine SPL_gy rfl rfl ?_
    refine SPL_ifn (y_neq rfl rfl) rfl ?_ ?_
    · intro h7_20
      refine SPL_gy rfl rfl ?_
      refine SPL_y (y_move rfl) rfl ?_
      refine SPL_gn rfl rfl rfl rfl ?_
      refine SPL_gn rfl rfl rfl rfl ?_
      refine SPL_gn rfl rfl rfl rfl ?_
      refine SPL_gy rfl rfl ?_
      refine SPL_y (y_pick_f rfl rfl) rfl ?_
      refine SPL_gy rfl rfl ?_
      refine SPL_y (y_pick_f rfl rfl) rfl ?_
      refine SPL_y (y_pick_t rfl rfl) rfl ?_
      refine SPL_nil ?_
      refine thenP_n ?_
      refine SP_cond_f rfl ?_
      refine SP_skip ?_
      refine thenP_n ?_
      refine SP_seq ?_
      refine SP_seq ?_
      refine SP_region ?_
      refine SPL_y (y_fa fld_53_0 rfl) rfl ?_
      refine SPL_y (y_load Tryz.isAgg51 rfl (by repeat (first | exact Cell.head rfl | apply Cell.tail))) rfl ?_
      refine SPL_if (y_neq rfl rfl) rfl ?_ ?_
      · intro h9_2
        refine SPL_nil ?_
        refine thenP_n ?_
        refine SP_cond_t rfl ?_
        refine SP_seq ?_
        refine SP_region ?_
        refine SPL_y (y_fa fld_53_2 rfl) rfl ?_
        refine SPL_y (y_load Tryz.isAgg3 rfl (by repeat (first | exact Cell.head rfl | apply Cell.tail))) rfl ?_
        refine SPL_y (y_eqlT rfl rfl (htrap (by omega) h9_2)) rfl ?_
        refine SPL_y (y_assign rfl) rfl ?_
        refine SPL_nil ?_
        refine thenP_n ?_
        refine SP_ret ?_
        refine thenP_ret (bodyP_ret (H' := []) (Res1 rfl rfl) (by repeat (first | exact Part.nil _ | (apply Part.cons; (first | exact P0 | exact P1 | exact P2 | exact P3 | exact P4 | exact P5 | exact P6 | exact P7 | exact P8 | exact P9 | exact P10 | exact P11 | exact P12 | exact P13 | exact P14 | exact P15 | exact P16 | exact P17 | exact P18 | exact P19 | exact P20 | exact P21 | exact P22 | exact P23)) | (apply Part.flat; simp only [List.cons_append, List.nil_append]) | (apply Part.nilc))) ?_)
        exact ⟨rfl, rfl⟩
      intro h9_2
      refine SPL_nil ?_
      refine thenP_n ?_
      refine SP_cond_f rfl ?_
      refine SP_skip ?_
      refine thenP_n ?_
      refine SP_seq ?_
      have h0 : ae = 0 := by omega
      refine SP_draw 999 [(0, 0), (2, 0), (3, 0), (1, 1), (4, 0), (5, 0), (6, 0), (7, 0), (8, 0), (9, 0), (12, 0), (13, 0), (10, 1), (11, 0), (14, 0), (15, 0), (16, 0), (17, 0)] mixed (by kernel_rfl) (fun _ _ _ _ _ h => h) (Part.refl _) ?_
      refine SPO_p rfl (y_fa fld_53_2 rfl) rfl ?_
      refine SPO_p rfl (y_move rfl) rfl ?_
      refine SPO_p rfl (y_len_s Tryz.underlying9 rfl) rfl ?_
      refine SPO_h rfl (y_load Tryz.isAgg3 rfl (by repeat (first | exact Cell.head rfl | apply Cell.tail))) rfl ?_
      refine SPO_p rfl (y_eqlT rfl rfl (hres h0).1) rfl ?_
      refine SPO_p rfl (y_move rfl) rfl ?_
      refine SPO_py rfl rfl rfl (y_move rfl) rfl ?_
      refine SPO_pyif rfl rfl rfl (y_seq0 rfl rfl) rfl ?_ ?_
      · intro h11_7
        refine SPO_py rfl rfl rfl (y_move rfl) rfl ?_
        refine SPO_gn (.inl rfl) rfl rfl rfl rfl rfl ?_
        refine SPO_gn (.inl rfl) rfl rfl rfl rfl rfl ?_
        refine SPO_gn (.inl rfl) rfl rfl rfl rfl rfl ?_
        refine SPO_gn (.inr rfl) rfl rfl rfl rfl rfl ?_
        refine SPO_gn (.inl rfl) rfl rfl rfl rfl rfl ?_
        refine SPO_gn (.inl rfl) rfl rfl rfl rfl rfl ?_
        refine SPO_py rfl rfl rfl (y_pick_t rfl rfl) rfl ?_
        refine SPO_p rfl (y_pick_t rfl rfl) rfl ?_
        refine SPO_p rfl (y_assign rfl) rfl ?_
        refine SPO_nil ?_
        refine thenP_n ?_
        refine SP_ret ?_
        refine bodyP_ret (H' := []) (Res1 rfl rfl) (by repeat (first | exact Part.nil _ | (apply Part.cons; (first | exact P0 | exact P1 | exact P2 | exact P3 | exact P4 | exact P5 | exact P6 | exact P7 | exact P8 | exact P9 | exact P10 | exact P11 | exact P12 | exact P13 | exact P14 | exact P15 | exact P16 | exact P17 | exact P18 | exact P19 | exact P20 | exact P21 | exact P22 | exact P23)) | (apply Part.flat; simp only [List.cons_append, List.nil_append]) | (apply Part.nilc))) ?_
        exact ⟨rfl, rfl⟩
      intro h11_7
      refine SPO_py rfl rfl rfl (y_move rfl) rfl ?_
      obtain ⟨c0, r0, r1, hs0, hr0⟩ := (hres h0).2.resolve_left (fun h => h11_7 (by rw [h]; rfl))
      have hc0 : (c0.toNat : Int) = c0.toNat := rfl
      refine SPO_py rfl rfl rfl (y_fa fld_53_3 rfl) rfl ?_
      refine SPO_py rfl rfl rfl (y_move rfl) rfl ?_
      refine SPO_py rfl rfl rfl (y_idx_s Tryz.underlying9 rfl rfl (by omega) (c := c0) (by rw [hr0]; rfl)) rfl ?_
      refine SPO_hy rfl rfl rfl (y_load Tryz.isAgg9 rfl (by repeat (first | exact Cell.head rfl | apply Cell.tail))) rfl ?_
      refine SPO_py rfl rfl rfl (y_idx_s Tryz.underlying9 rfl rfl (by omega) (c := c0) (by rw [hs0]; rfl)) rfl ?_
      refine SPO_py rfl rfl rfl (y_eqlT rfl rfl hc0) rfl ?_
      refine SPO_py rfl rfl rfl (y_pick_f rfl rfl) rfl ?_
      refine SPO_p rfl (y_pick_t rfl rfl) rfl ?_
      refine SPO_p rfl (y_assign rfl) rfl ?_
      refine SPO_nil ?_
      refine thenP_n ?_
      refine SP_ret ?_
      refine bodyP_ret (H' := []) (Res1 rfl rfl) (by repeat (first | exact Part.nil _ | (apply Part.cons; (first | exact P0 | exact P1 | exact P2 | exact P3 | exact P4 | exact P5 | exact P6 | exact P7 | exact P8 | exact P9 | exact P10 | exact P11 | exact P12 | exact P13 | exact P14 | exact P15 | exact P16 | exact P17 | exact P18 | exact P19 | exact P20 | exact P21 | exact P22 | exact P23)) | (apply Part.flat; simp only [List.cons_append, List.nil_append]) | (apply Part.nilc))) ?_
      exact ⟨rfl, rfl⟩
    intro h7_20
    refine SPL_gy rfl rfl ?_
    refine SPL_y (y_move rfl) rfl ?_
    refine SPL_gy rfl rfl ?_
    refine SPL_y (y_fa fld_53_0 rfl) rfl ?_
    refine SPL_gy rfl rfl ?_
    refine SPL_y (y_load Tryz.isAgg51 rfl (by repeat (first | exact Cell.head rfl | apply Cell.tail))) rfl ?_
    refine SPL_gy rfl rfl ?_
    refine SPL_if (y_neq rfl rfl) rfl ?_ ?_
    · intro h7_24
      have := (hfoot (by omega) (by omega)).2.2.2; omega
    intro h7_24
    refine SPL_gy rfl rfl ?_
    refine SPL_y (y_pick_t rfl rfl) rfl ?_
    refine SPL_gy rfl rfl ?_
    refine SPL_y (y_pick_f rfl rfl) rfl ?_
    refine SPL_y (y_pick_t rfl rfl) rfl ?_
    refine SPL_nil ?_
    refine thenP_n ?_
    refine SP_cond_f rfl ?_
    refine SP_skip ?_
    refine thenP_n ?_
    refine SP_seq ?_
    refine SP_seq ?_
    refine SP_region ?_
    refine SPL_y (y_fa fld_53_0 rfl) rfl ?_
    refine SPL_y (y_load Tryz.isAgg51 rfl (by repeat (first | exact Cell.head rfl | apply Cell.tail))) rfl ?_
    refine SPL_if (y_neq rfl rfl) rfl ?_ ?_
    · intro h9_2
      refine SPL_nil ?_
      refine thenP_n ?_
      refine SP_cond_t rfl ?_
      refine SP_seq ?_
      refine SP_region ?_
      refine SPL_y (y_fa fld_53_2 rfl) rfl ?_
      refine SPL_y (y_load Tryz.isAgg3 rfl (by repeat (first | exact Cell.head rfl | apply Cell.tail))) rfl ?_
      refine SPL_y (y_eqlT rfl rfl (htrap (by omega) h9_2)) rfl ?_
      refine SPL_y (y_assign rfl) rfl ?_
      refine SPL_nil ?_
      refine thenP_n ?_
      refine SP_ret ?_
      refine thenP_ret (bodyP_ret (H' := []) (Res1 rfl rfl) (by repeat (first | exact Part.nil _ | (apply Part.cons; (first | exact P0 | exact P1 | exact P2 | exact P3 | exact P4 | exact P5 | exact P6 | exact P7 | exact P8 | exact P9 | exact P10 | exact P11 | exact P12 | exact P13 | exact P14 | exact P15 | exact P16 | exact P17 | exact P18 | exact P19 | exact P20 | exact P21 | exact P22 | exact P23)) | (apply Part.flat; simp only [List.cons_append, List.nil_append]) | (apply Part.nilc))) ?_)
      exact ⟨rfl, rfl⟩
    intro h9_2
    refine SPL_nil ?_
    refine thenP_n ?_
    refine SP_cond_f rfl ?_
    refine SP_skip ?_
    refine thenP_n ?_
    refine SP_seq ?_
    have h0 : ae = 0 := by omega
    refine SP_draw 999 [(0, 0), (2, 0), (3, 0), (1, 1), (4, 0), (5, 0), (6, 0), (7, 0), (8, 0), (9, 0), (12, 0), (13, 0), (10, 1), (11, 0), (14, 0), (15, 0), (16, 0), (17, 0)] mixed (by kernel_rfl) (fun _ _ _ _ _ h => h) (Part.refl _) ?_
    refine SPO_p rfl (y_fa fld_53_2 rfl) rfl ?_
    refine SPO_p rfl (y_move rfl) rfl ?_
    refine SPO_p rfl (y_len_s Tryz.underlying9 rfl) rfl ?_
    refine SPO_h rfl (y_load Tryz.isAgg3 rfl (by repeat (first | exact Cell.head rfl | apply Cell.tail))) rfl ?_
    refine SPO_p rfl (y_eqlT rfl rfl (hres h0).1) rfl ?_
    refine SPO_p rfl (y_move rfl) rfl ?_
    refine SPO_py rfl rfl rfl (y_move rfl) rfl ?_
    refine SPO_pyif rfl rfl rfl (y_seq0 rfl rfl) rfl ?_ ?_
    · intro h11_7
      refine SPO_py rfl rfl rfl (y_move rfl) rfl ?_
      refine SPO_gn (.inl rfl) rfl rfl rfl rfl rfl ?_
      refine SPO_gn (.inl rfl) rfl rfl rfl rfl rfl ?_
      refine SPO_gn (.inl rfl) rfl rfl rfl rfl rfl ?_
      refine SPO_gn (.inr rfl) rfl rfl rfl rfl rfl ?_
      refine SPO_gn (.inl rfl) rfl rfl rfl rfl rfl ?_
      refine SPO_gn (.inl rfl) rfl rfl rfl rfl rfl ?_
      refine SPO_py rfl rfl rfl (y_pick_t rfl rfl) rfl ?_
      refine SPO_p rfl (y_pick_t rfl rfl) rfl ?_
      refine SPO_p rfl (y_assign rfl) rfl ?_
      refine SPO_nil ?_
      refine thenP_n ?_
      refine SP_ret ?_
      refine bodyP_ret (H' := []) (Res1 rfl rfl) (by repeat (first | exact Part.nil _ | (apply Part.cons; (first | exact P0 | exact P1 | exact P2 | exact P3 | exact P4 | exact P5 | exact P6 | exact P7 | exact P8 | exact P9 | exact P10 | exact P11 | exact P12 | exact P13 | exact P14 | exact P15 | exact P16 | exact P17 | exact P18 | exact P19 | exact P20 | exact P21 | exact P22 | exact P23)) | (apply Part.flat; simp only [List.cons_append, List.nil_append]) | (apply Part.nilc))) ?_
      exact ⟨rfl, rfl⟩
    intro h11_7
    refine SPO_py rfl rfl rfl (y_move rfl) rfl ?_
    obtain ⟨c0, r0, r1, hs0, hr0⟩ := (hres h0).2.resolve_left (fun h => h11_7 (by rw [h]; rfl))
    have hc0 : (c0.toNat : Int) = c0.toNat := rfl
    refine SPO_py rfl rfl rfl (y_fa fld_53_3 rfl) rfl ?_
    refine SPO_py rfl rfl rfl (y_move rfl) rfl ?_
    refine SPO_py rfl rfl rfl (y_idx_s Tryz.underlying9 rfl rfl (by omega) (c := c0) (by rw [hr0]; rfl)) rfl ?_
    refine SPO_hy rfl rfl rfl (y_load Tryz.isAgg9 rfl (by repeat (first | exact Cell.head rfl | apply Cell.tail))) rfl ?_
    refine SPO_py rfl rfl rfl (y_idx_s Tryz.underlying9 rfl rfl (by omega) (c := c0) (by rw [hs0]; rfl)) rfl ?_
    refine SPO_py rfl rfl rfl (y_eqlT rfl rfl hc0) rfl ?_
    refine SPO_py rfl rfl rfl (y_pick_f rfl rfl) rfl ?_
    refine SPO_p rfl (y_pick_t rfl rfl) rfl ?_
    refine SPO_p rfl (y_assign rfl) rfl ?_
    refine SPO_nil ?_
    refine thenP_n ?_
    refine SP_ret ?_
    refine bodyP_ret (H' := []) (Res1 rfl rfl) (by repeat (first | exact Part.nil _ | (apply Part.cons; (first | exact P0 | exact P1 | exact P2 | exact P3 | exact P4 | exact P5 | exact P6 | exact P7 | exact P8 | exact P9 | exact P10 | exact P11 | exact P12 | exact P13 | exact P14 | exact P15 | exact P16 | exact P17 | exact P18 | exact P19 | exact P20 | exact P21 | exact P22 | exact P23)) | (apply Part.flat; simp only [List.cons_append, List.nil_append]) | (apply Part.nilc))) ?_
    exact ⟨rfl, rfl⟩
  intro h3_2
  refine SPL_y (y_move rfl) rfl ?_
  refine SPL_gy rfl rfl ?_
  refine SPL_y (y_fa fld_53_0 rfl) rfl ?_
  refine SPL_gy rfl rfl ?_
  refine SPL_y (y_load Tryz.isAgg51 rfl (by repeat (first | exact Cell.head rfl | apply Cell.tail))) rfl ?_
  refine SPL_gy rfl rfl ?_
  refine SPL_if (y_lss rfl rfl) rfl ?_ ?_
  · intro h3_6
    have := herr (by omega); omega
  intro h3_6
  refine SPL_gy rfl rfl ?_
  refine SPL_y (y_move rfl) rfl ?_
  refine SPL_gy rfl rfl ?_
  refine SPL_y (y_fa fld_53_0 rfl) rfl ?_
  refine SPL_gy rfl rfl ?_
  refine SPL_y (y_load Tryz.isAgg51 rfl (by repeat (first | exact Cell.head rfl | apply Cell.tail))) rfl ?_
  refine SPL_gy rfl rfl ?_
  refine SPL_if (y_geq rfl rfl) rfl ?_ ?_
  · intro h3_10
    have := herr (by omega); omega
  intro h3_10
  refine SPL_gy rfl rfl ?_
  refine SPL_y (y_pick_f rfl rfl) rfl ?_
  refine SPL_y (y_pick_t rfl rfl) rfl ?_
  refine SPL_nil ?_
  refine thenP_n ?_
  refine SP_cond_f rfl ?_
  refine SP_skip ?_
  refine thenP_n ?_
  refine SP_seq ?_
  refine SP_seq ?_
  refine SP_region ?_
  refine SPL_y (y_fa fld_53_1 rfl) rfl ?_
  refine SPL_y (y_load Tryz.isAgg3 rfl (by repeat (first | exact Cell.head rfl | apply Cell.tail))) rfl ?_
  refine SPL_if (y_lss rfl rfl) rfl ?_ ?_
  · intro h5_2
    omega
  intro h5_2
  refine SPL_y (y_move rfl) rfl ?_
  refine SPL_gy rfl rfl ?_
  refine SPL_y (y_fa fld_53_1 rfl) rfl ?_
  refine SPL_gy rfl rfl ?_
  refine SPL_y (y_load Tryz.isAgg3 rfl (by repeat (first | exact Cell.head rfl | apply Cell.tail))) rfl ?_
  refine SPL_gy rfl rfl ?_
  refine SPL_y (y_fa fld_43_2 rfl) rfl ?_
  refine SPL_gy rfl rfl ?_
  refine SPL_y (y_load Tryz.isAgg3 rfl (by repeat (first | exact Cell.head rfl | apply Cell.tail))) rfl ?_
  refine SPL_gy rfl rfl ?_
  refine SPL_ifn (y_gtr rfl rfl) rfl ?_ ?_
  · intro h5_8
    refine SPL_gy rfl rfl ?_
    refine SPL_y (y_move rfl) rfl ?_
    refine SPL_gn rfl rfl rfl rfl ?_
    refine SPL_gn rfl rfl rfl rfl ?_
    refine SPL_gn rfl rfl rfl rfl ?_
    refine SPL_gy rfl rfl ?_
    refine SPL_y (y_pick_f rfl rfl) rfl ?_
    refine SPL_y (y_pick_f rfl rfl) rfl ?_
    refine SPL_nil ?_
    refine thenP_n ?_
    refine SP_cond_f rfl ?_
    refine SP_skip ?_
    refine thenP_n ?_
    refine SP_seq ?_
    refine SP_seq ?_
    refine SP_region ?_
    refine SPL_y (y_fa fld_43_2 rfl) rfl ?_
    refine SPL_y (y_load Tryz.isAgg3 rfl (by repeat (first | exact Cell.head rfl | apply Cell.tail))) rfl ?_
    refine SPL_ifn (y_leq rfl rfl) rfl ?_ ?_
    · intro h7_2
      refine SPL_y (y_move rfl) rfl ?_
      refine SPL_gn rfl rfl rfl rfl ?_
      refine SPL_gn rfl rfl rfl rfl ?_
      refine SPL_gn rfl rfl rfl rfl ?_
      refine SPL_gn rfl rfl rfl rfl ?_
      refine SPL_gu rfl rfl rfl ?_
      refine SPL_gu rfl rfl rfl ?_
      refine SPL_gu rfl rfl rfl ?_
      refine SPL_gn rfl rfl rfl rfl ?_
      refine SPL_gn rfl rfl rfl rfl ?_
      refine SPL_gu rfl rfl rfl ?_
      refine SPL_gu rfl rfl rfl ?_
      refine SPL_gu rfl rfl rfl ?_
      refine SPL_gn rfl rfl rfl rfl ?_
      refine SPL_gn rfl rfl rfl rfl ?_
      refine SPL_gu rfl rfl rfl ?_
      refine SPL_gu rfl rfl rfl ?_
      refine SPL_gu rfl rfl rfl ?_
      refine SPL_gu rfl rfl rfl ?_
      refine SPL_gu rfl rfl rfl ?_
      refine SPL_gu rfl rfl rfl ?_
      refine SPL_gu rfl rfl rfl ?_
      refine SPL_gu rfl rfl rfl ?_
      refine SPL_gn rfl rfl rfl rfl ?_
      refine SPL_y (y_pick_f rfl rfl) rfl ?_
      refine SPL_nil ?_
      refine thenP_n ?_
      refine SP_cond_f rfl ?_
      refine SP_skip ?_
      refine thenP_n ?_
      refine SP_seq ?_
      refine SP_seq ?_
      refine SP_region ?_
      refine SPL_y (y_fa fld_53_0 rfl) rfl ?_
      refine SPL_y (y_load Tryz.isAgg51 rfl (by repeat (first | exact Cell.head rfl | apply Cell.tail))) rfl ?_
      refine SPL_if (y_neq rfl rfl) rfl ?_ ?_
      · intro h9_2
        refine SPL_nil ?_
        refine thenP_n ?_
        refine SP_cond_t rfl ?_
        refine SP_seq ?_
        refine SP_region ?_
        refine SPL_y (y_fa fld_53_2 rfl) rfl ?_
        refine SPL_y (y_load Tryz.isAgg3 rfl (by repeat (first | exact Cell.head rfl | apply Cell.tail))) rfl ?_
        refine SPL_y (y_eqlT rfl rfl (htrap (by omega) h9_2)) rfl ?_
        refine SPL_y (y_assign rfl) rfl ?_
        refine SPL_nil ?_
        refine thenP_n ?_
        refine SP_ret ?_
        refine thenP_ret (bodyP_ret (H' := []) (Res1 rfl rfl) (by repeat (first | exact Part.nil _ | (apply Part.cons; (first | exact P0 | exact P1 | exact P2 | exact P3 | exact P4 | exact P5 | exact P6 | exact P7 | exact P8 | exact P9 | exact P10 | exact P11 | exact P12 | exact P13 | exact P14 | exact P15 | exact P16 | exact P17 | exact P18 | exact P19 | exact P20 | exact P21 | exact P22 | exact P23)) | (apply Part.flat; simp only [List.cons_append, List.nil_append]) | (apply Part.nilc))) ?_)
        exact ⟨rfl, rfl⟩
      intro h9_2
      refine SPL_nil ?_
      refine thenP_n ?_
      refine SP_cond_f rfl ?_
      refine SP_skip ?_
      refine thenP_n ?_
      refine SP_seq ?_
      have h0 : ae = 0 := by omega
      refine SP_draw 999 [(0, 0), (2, 0), (3, 0), (1, 1), (4, 0), (5, 0), (6, 0), (7, 0), (8, 0), (9, 0), (12, 0), (13, 0), (10, 1), (11, 0), (14, 0), (15, 0), (16, 0), (17, 0)] mixed (by kernel_rfl) (fun _ _ _ _ _ h => h) (Part.refl _) ?_
      refine SPO_p rfl (y_fa fld_53_2 rfl) rfl ?_
      refine SPO_p rfl (y_move rfl) rfl ?_
      refine SPO_p rfl (y_len_s Tryz.underlying9 rfl) rfl ?_
      refine SPO_h rfl (y_load Tryz.isAgg3 rfl (by repeat (first | exact Cell.head rfl | apply Cell.tail))) rfl ?_
      refine SPO_p rfl (y_eqlT rfl rfl (hres h0).1) rfl ?_
      refine SPO_p rfl (y_move rfl) rfl ?_
      refine SPO_py rfl rfl rfl (y_move rfl) rfl ?_
      refine SPO_pyif rfl rfl rfl (y_seq0 rfl rfl) rfl ?_ ?_
      · intro h11_7
        refine SPO_py rfl rfl rfl (y_move rfl) rfl ?_
        refine SPO_gn (.inl rfl) rfl rfl rfl rfl rfl ?_
        refine SPO_gn (.inl rfl) rfl rfl rfl rfl rfl ?_
        refine SPO_gn (.inl rfl) rfl rfl rfl rfl rfl ?_
        refine SPO_gn (.inr rfl) rfl rfl rfl rfl rfl ?_
        refine SPO_gn (.inl rfl) rfl rfl rfl rfl rfl ?_
        refine SPO_gn (.inl rfl) rfl rfl rfl rfl rfl ?_
        refine SPO_py rfl rfl rfl (y_pick_t rfl rfl) rfl ?_
        refine SPO_p rfl (y_pick_t rfl rfl) rfl ?_
        refine SPO_p rfl (y_assign rfl) rfl ?_
        refine SPO_nil ?_
        refine thenP_n ?_
        refine SP_ret ?_
        refine bodyP_ret (H' := []) (Res1 rfl rfl) (by repeat (first | exact Part.nil _ | (apply Part.cons; (first | exact P0 | exact P1 | exact P2 | exact P3 | exact P4 | exact P5 | exact P6 | exact P7 | exact P8 | exact P9 | exact P10 | exact P11 | exact P12 | exact P13 | exact P14 | exact P15 | exact P16 | exact P17 | exact P18 | exact P19 | exact P20 | exact P21 | exact P22 | exact P23)) | (apply Part.flat; simp only [List.cons_append, List.nil_append]) | (apply Part.nilc))) ?_
        exact ⟨rfl, rfl⟩
      intro h11_7
      refine SPO_py rfl rfl rfl (y_move rfl) rfl ?_
      obtain ⟨c0, r0, r1, hs0, hr0⟩ := (hres h0).2.resolve_left (fun h => h11_7 (by rw [h]; rfl))
      have hc0 : (c0.toNat : Int) = c0.toNat := rfl
      refine SPO_py rfl rfl rfl (y_fa fld_53_3 rfl) rfl ?_
      refine SPO_py rfl rfl rfl (y_move rfl) rfl ?_
      refine SPO_py rfl rfl rfl (y_idx_s Tryz.underlying9 rfl rfl (by omega) (c := c0) (by rw [hr0]; rfl)) rfl ?_
      refine SPO_hy rfl rfl rfl (y_load Tryz.isAgg9 rfl (by repeat (first | exact Cell.head rfl | apply Cell.tail))) rfl ?_
      refine SPO_py rfl rfl rfl (y_idx_s Tryz.underlying9 rfl rfl (by omega) (c := c0) (by rw [hs0]; rfl)) rfl ?_
      refine SPO_py rfl rfl rfl (y_eqlT rfl rfl hc0) rfl ?_
      refine SPO_py rfl rfl rfl (y_pick_f rfl rfl) rfl ?_
      refine SPO_p rfl (y_pick_t rfl rfl) rfl ?_
      refine SPO_p rfl (y_assign rfl) rfl ?_
      refine SPO_nil ?_
      refine thenP_n ?_
      refine SP_ret ?_
      refine bodyP_ret (H' := []) (Res1 rfl rfl) (by repeat (first | exact Part.nil _ | (apply Part.cons; (first | exact P0 | exact P1 | exact P2 | exact P3 | exact P4 | exact P5 | exact P6 | exact P7 | exact P8 | exact P9 | exact P10 | exact P11 | exact P12 | exact P13 | exact P14 | exact P15 | exact P16 | exact P17 | exact P18 | exact P19 | exact P20 | exact P21 | exact P22 | exact P23)) | (apply Part.flat; simp only [List.cons_append, List.nil_append]) | (apply Part.nilc))) ?_
      exact ⟨rfl, rfl⟩
    intro h7_2
    refine SPL_y (y_move rfl) rfl ?_
    refine SPL_gy rfl rfl ?_
    refine SPL_y (y_fa fld_53_1 rfl) rfl ?_
    refine SPL_gy rfl rfl ?_
    refine SPL_y (y_load Tryz.isAgg3 rfl (by repeat (first | exact Cell.head rfl | apply Cell.tail))) rfl ?_
    refine SPL_gy rfl rfl ?_
    refine SPL_if (y_neq rfl rfl) rfl ?_ ?_
    · intro h7_6
      have := hfoot (by omega) (by omega); omega
    intro h7_6
    refine SPL_gy rfl rfl ?_
    refine SPL_y (y_move rfl) rfl ?_
    refine SPL_gy rfl rfl ?_
    refine SPL_y (y_fa fld_53_3 rfl) rfl ?_
    refine SPL_gy rfl rfl ?_
    refine SPL_y (y_load Tryz.isAgg9 rfl (by repeat (first | exact Cell.head rfl | apply Cell.tail))) rfl ?_
    refine SPL_gy rfl rfl ?_
    refine SPL_if (y_sne rfl rfl) rfl ?_ ?_
    · intro h7_10
      exact absurd (hfoot (by omega) (by omega)).2.1 h7_10
    intro h7_10
    refine SPL_gy rfl rfl ?_
    refine SPL_y (y_pick_f rfl rfl) rfl ?_
    refine SPL_gy rfl rfl ?_
    refine SPL_y (y_move rfl) rfl ?_
    refine SPL_gy rfl rfl ?_
    refine SPL_y (y_move rfl) rfl ?_
    refine SPL_gy rfl rfl ?_
    refine SPL_y (y_move rfl) rfl ?_
    refine SPL_gy rfl rfl ?_
    refine SPL_if (y_sne rfl rfl) rfl ?_ ?_
    · intro h7_15
      exact absurd (hfoot (by omega) (by omega)).2.2.1 h7_15
    intro h7_15
    refine SPL_gy rfl rfl ?_
    refine SPL_y (y_pick_f rfl rfl) rfl ?_
    refine SPL_gy rfl rfl ?_
    refine SPL_y (y_move rfl) rfl ?_
    refine SPL_gy rfl rfl ?_
    refine SPL_y (y_fa fld_53_0 rfl) rfl ?_
    refine SPL_gy rfl rfl ?_
    refine SPL_y (y_load Tryz.isAgg51 rfl (by repeat (first | exact Cell.head rfl | apply Cell.tail))) rfl ?_
    refine SPL_gy rfl rfl ?_
    refine SPL_ifn (y_neq rfl rfl) rfl ?_ ?_
    · intro h7_20
      refine SPL_gy rfl rfl ?_
      refine SPL_y (y_move rfl) rfl ?_
      refine SPL_gn rfl rfl rfl rfl ?_
      refine SPL_gn rfl rfl rfl rfl ?_
      refine SPL_gn rfl rfl rfl rfl ?_
      refine SPL_gy rfl rfl ?_
      refine SPL_y (y_pick_f rfl rfl) rfl ?_
      refine SPL_gy rfl rfl ?_
      refine SPL_y (y_pick_f rfl rfl) rfl ?_
      refine SPL_y (y_pick_t rfl rfl) rfl ?_
      refine SPL_nil ?_
      refine thenP_n ?_
      refine SP_cond_f rfl ?_
      refine SP_skip ?_
      refine thenP_n ?_
      refine SP_seq ?_
      refine SP_seq ?_
      refine SP_region ?_
      refine SPL_y (y_fa fld_53_0 rfl) rfl ?_
      refine SPL_y (y_load Tryz.isAgg51 rfl (by repeat (first | exact Cell.head rfl | apply Cell.tail))) rfl ?_
      refine SPL_if (y_neq rfl rfl) rfl ?_ ?_
      · intro h9_2
        refine SPL_nil ?_
        refine thenP_n ?_
        refine SP_cond_t rfl ?_
        refine SP_seq ?_
        refine SP_region ?_
        refine SPL_y (y_fa fld_53_2 rfl) rfl ?_
        refine SPL_y (y_load Tryz.isAgg3 rfl (by repeat (first | exact Cell.head rfl | apply Cell.tail))) rfl ?_
        refine SPL_y (y_eqlT rfl rfl (htrap (by omega) h9_2)) rfl ?_
        refine SPL_y (y_assign rfl) rfl ?_
        refine SPL_nil ?_
        refine thenP_n ?_
        refine SP_ret ?_
        refine thenP_ret (bodyP_ret (H' := []) (Res1 rfl rfl) (by repeat (first | exact Part.nil _ | (apply Part.cons; (first | exact P0 | exact P1 | exact P2 | exact P3 | exact P4 | exact P5 | exact P6 | exact P7 | exact P8 | exact P9 | exact P10 | exact P11 | exact P12 | exact P13 | exact P14 | exact P15 | exact P16 | exact P17 | exact P18 | exact P19 | exact P20 | exact P21 | exact P22 | exact P23)) | (apply Part.flat; simp only [List.cons_append, List.nil_append]) | (apply Part.nilc))) ?_)
        exact ⟨rfl, rfl⟩
      intro h9_2
      refine SPL_nil ?_
      refine thenP_n ?_
      refine SP_cond_f rfl ?_
      refine SP_skip ?_
      refine thenP_n ?_
      refine SP_seq ?_
      have h0 : ae = 0 := by omega
      refine SP_draw 999 [(0, 0), (2, 0), (3, 0), (1, 1), (4, 0), (5, 0), (6, 0), (7, 0), (8, 0), (9, 0), (12, 0), (13, 0), (10, 1), (11, 0), (14, 0), (15, 0), (16, 0), (17, 0)] mixed (by kernel_rfl) (fun _ _ _ _ _ h => h) (Part.refl _) ?_
      refine SPO_p rfl (y_fa fld_53_2 rfl) rfl ?_
      refine SPO_p rfl (y_move rfl) rfl ?_
      refine SPO_p rfl (y_len_s Tryz.underlying9 rfl) rfl ?_
      refine SPO_h rfl (y_load Tryz.isAgg3 rfl (by repeat (first | exact Cell.head rfl | apply Cell.tail))) rfl ?_
      refine SPO_p rfl (y_eqlT rfl rfl (hres h0).1) rfl ?_
      refine SPO_p rfl (y_move rfl) rfl ?_
      refine SPO_py rfl rfl rfl (y_move rfl) rfl ?_
      refine SPO_pyif rfl rfl rfl (y_seq0 rfl rfl) rfl ?_ ?_
      · intro h11_7
        refine SPO_py rfl rfl rfl (y_move rfl) rfl ?_
        refine SPO_gn (.inl rfl) rfl rfl rfl rfl rfl ?_
        refine SPO_gn (.inl rfl) rfl rfl rfl rfl rfl ?_
        refine SPO_gn (.inl rfl) rfl rfl rfl rfl rfl ?_
        refine SPO_gn (.inr rfl) rfl rfl rfl rfl rfl ?_
        refine SPO_gn (.inl rfl) rfl rfl rfl rfl rfl ?_
        refine SPO_gn (.inl rfl) rfl rfl rfl rfl rfl ?_
        refine SPO_py rfl rfl rfl (y_pick_t rfl rfl) rfl ?_
        refine SPO_p rfl (y_pick_t rfl rfl) rfl ?_
        refine SPO_p rfl (y_assign rfl) rfl ?_
        refine SPO_nil ?_
        refine thenP_n ?_
        refine SP_ret ?_
        refine bodyP_ret (H' := []) (Res1 rfl rfl) (by repeat (first | exact Part.nil _ | (apply Part.cons; (first | exact P0 | exact P1 | exact P2 | exact P3 | exact P4 | exact P5 | exact P6 | exact P7 | exact P8 | exact P9 | exact P10 | exact P11 | exact P12 | exact P13 | exact P14 | exact P15 | exact P16 | exact P17 | exact P18 | exact P19 | exact P20 | exact P21 | exact P22 | exact P23)) | (apply Part.flat; simp only [List.cons_append, List.nil_append]) | (apply Part.nilc))) ?_
        exact ⟨rfl, rfl⟩
      intro h11_7
      refine SPO_py rfl rfl rfl (y_move rfl) rfl ?_
      obtain ⟨c0, r0, r1, hs0, hr0⟩ := (hres h0).2.resolve_left (fun h => h11_7 (by rw [h]; rfl))
      have hc0 : (c0.toNat : Int) = c0.toNat := rfl
      refine SPO_py rfl rfl rfl (y_fa fld_53_3 rfl) rfl ?_
      refine SPO_py rfl rfl rfl (y_move rfl) rfl ?_
      refine SPO_py rfl rfl rfl (y_idx_s Tryz.underlying9 rfl rfl (by omega) (c := c0) (by rw [hr0]; rfl)) rfl ?_
      refine SPO_hy rfl rfl rfl (y_load Tryz.isAgg9 rfl (by repeat (first | exact Cell.head rfl | apply Cell.tail))) rfl ?_
      refine SPO_py rfl rfl rfl (y_idx_s Tryz.underlying9 rfl rfl (by omega) (c := c0) (by rw [hs0]; rfl)) rfl ?_
      refine SPO_py rfl rfl rfl (y_eqlT rfl rfl hc0) rfl ?_
      refine SPO_py rfl rfl rfl (y_pick_f rfl rfl) rfl ?_
      refine SPO_p rfl (y_pick_t rfl rfl) rfl ?_
      refine SPO_p rfl (y_assign rfl) rfl ?_
      refine SPO_nil ?_
      refine thenP_n ?_
      refine SP_ret ?_
      refine bodyP_ret (H' := []) (Res1 rfl rfl) (by repeat (first | exact Part.nil _ | (apply Part.cons; (first | exact P0 | exact P1 | exact P2 | exact P3 | exact P4 | exact P5 | exact P6 | exact P7 | exact P8 | exact P9 | exact P10 | exact P11 | exact P12 | exact P13 | exact P14 | exact P15 | exact P16 | exact P17 | exact P18 | exact P19 | exact P20 | exact P21 | exact P22 | exact P23)) | (apply Part.flat; simp only [List.cons_append, List.nil_append]) | (apply Part.nilc))) ?_
      exact ⟨rfl, rfl⟩
    intro h7_20
    refine SPL_gy rfl rfl ?_
    refine SPL_y (y_move rfl) rfl ?_
    refine SPL_gy rfl rfl ?_
    refine SPL_y (y_fa fld_53_0 rfl) rfl ?_
    refine SPL_gy rfl rfl ?_
    refine SPL_y (y_load Tryz.isAgg51 rfl (by repeat (first | exact Cell.head rfl | apply Cell.tail))) rfl ?_
    refine SPL_gy rfl rfl ?_
    refine SPL_if (y_neq rfl rfl) rfl ?_ ?_
    · intro h7_24
      have := (hfoot (by omega) (by omega)).2.2.2; omega
    intro h7_24
    refine SPL_gy rfl rfl ?_
    refine SPL_y (y_pick_t rfl rfl) rfl ?_
    refine SPL_gy rfl rfl ?_
    refine SPL_y (y_pick_f rfl rfl) rfl ?_
    refine SPL_y (y_pick_t rfl rfl) rfl ?_
    refine SPL_nil ?_
    refine thenP_n ?_
    refine SP_cond_f rfl ?_
    refine SP_skip ?_
    refine thenP_n ?_
    refine SP_seq ?_
    refine SP_seq ?_
    refine SP_region ?_
    refine SPL_y (y_fa fld_53_0 rfl) rfl ?_
    refine SPL_y (y_load Tryz.isAgg51 rfl (by repeat (first | exact Cell.head rfl | apply Cell.tail))) rfl ?_
    refine SPL_if (y_neq rfl rfl) rfl ?_ ?_
    · intro h9_2
      refine SPL_nil ?_
      refine thenP_n ?_
      refine SP_cond_t rfl ?_
      refine SP_seq ?_
      refine SP_region ?_
      refine SPL_y (y_fa fld_53_2 rfl) rfl ?_
      refine SPL_y (y_load Tryz.isAgg3 rfl (by repeat (first | exact Cell.head rfl | apply Cell.tail))) rfl ?_
      refine SPL_y (y_eqlT rfl rfl (htrap (by omega) h9_2)) rfl ?_
      refine SPL_y (y_assign rfl) rfl ?_
      refine SPL_nil ?_
      refine thenP_n ?_
      refine SP_ret ?_
      refine thenP_ret (bodyP_ret (H' := []) (Res1 rfl rfl) (by repeat (first | exact Part.nil _ | (apply Part.cons; (first | exact P0 | exact P1 | exact P2 | exact P3 | exact P4 | exact P5 | exact P6 | exact P7 | exact P8 | exact P9 | exact P10 | exact P11 | exact P12 | exact P13 | exact P14 | exact P15 | exact P16 | exact P17 | exact P18 | exact P19 | exact P20 | exact P21 | exact P22 | exact P23)) | (apply Part.flat; simp only [List.cons_append, List.nil_append]) | (apply Part.nilc))) ?_)
      exact ⟨rfl, rfl⟩
    intro h9_2
    refine SPL_nil ?_
    refine thenP_n ?_
    refine SP_cond_f rfl ?_
    refine SP_skip ?_
    refine thenP_n ?_
    refine SP_seq ?_
    have h0 : ae = 0 := by omega
    refine SP_draw 999 [(0, 0), (2, 0), (3, 0), (1, 1), (4, 0), (5, 0), (6, 0), (7, 0), (8, 0), (9, 0), (12, 0), (13, 0), (10, 1), (11, 0), (14, 0), (15, 0), (16, 0), (17, 0)] mixed (by kernel_rfl) (fun _ _ _ _ _ h => h) (Part.refl _) ?_
    refine SPO_p rfl (y_fa fld_53_2 rfl) rfl ?_
    refine SPO_p rfl (y_move rfl) rfl ?_
    refine SPO_p rfl (y_len_s Tryz.underlying9 rfl) rfl ?_
    refine SPO_h rfl (y_load Tryz.isAgg3 rfl (by repeat (first | exact Cell.head rfl | apply Cell.tail))) rfl ?_
    refine SPO_p rfl (y_eqlT rfl rfl (hres h0).1) rfl ?_
    refine SPO_p rfl (y_move rfl) rfl ?_
    refine SPO_py rfl rfl rfl (y_move rfl) rfl ?_
    refine SPO_pyif rfl rfl rfl (y_seq0 rfl rfl) rfl ?_ ?_
    · intro h11_7
      refine SPO_py rfl rfl rfl (y_move rfl) rfl ?_
      refine SPO_gn (.inl rfl) rfl rfl rfl rfl rfl ?_
      refine SPO_gn (.inl rfl) rfl rfl rfl rfl rfl ?_
      refine SPO_gn (.inl rfl) rfl rfl rfl rfl rfl ?_
      refine SPO_gn (.inr rfl) rfl rfl rfl rfl rfl ?_
      refine SPO_gn (.inl rfl) rfl rfl rfl rfl rfl ?_
      refine SPO_gn (.inl rfl) rfl rfl rfl rfl rfl ?_
      refine SPO_py rfl rfl rfl (y_pick_t rfl rfl) rfl ?_
      refine SPO_p rfl (y_pick_t rfl rfl) rfl ?_
      refine SPO_p rfl (y_assign rfl) rfl ?_
      refine SPO_nil ?_
      refine thenP_n ?_
      refine SP_ret ?_
      refine bodyP_ret (H' := []) (Res1 rfl rfl) (by repeat (first | exact Part.nil _ | (apply Part.cons; (first | exact P0 | exact P1 | exact P2 | exact P3 | exact P4 | exact P5 | exact P6 | exact P7 | exact P8 | exact P9 | exact P10 | exact P11 | exact P12 | exact P13 | exact P14 | exact P15 | exact P16 | exact P17 | exact P18 | exact P19 | exact P20 | exact P21 | exact P22 | exact P23)) | (apply Part.flat; simp only [List.cons_append, List.nil_append]) | (apply Part.nilc))) ?_
      exact ⟨rfl, rfl⟩
    intro h11_7
    refine SPO_py rfl rfl rfl (y_move rfl) rfl ?_
    obtain ⟨c0, r0, r1, hs0, hr0⟩ := (hres h0).2.resolve_left (fun h => h11_7 (by rw [h]; rfl))
    have hc0 : (c0.toNat : Int) = c0.toNat := rfl
    refine SPO_py rfl rfl rfl (y_fa fld_53_3 rfl) rfl ?_
    refine SPO_py rfl rfl rfl (y_move rfl) rfl ?_
    refine SPO_py rfl rfl rfl (y_idx_s Tryz.underlying9 rfl rfl (by omega) (c := c0) (by rw [hr0]; rfl)) rfl ?_
    refine SPO_hy rfl rfl rfl (y_load Tryz.isAgg9 rfl (by repeat (first | exact Cell.head rfl | apply Cell.tail))) rfl ?_
    refine SPO_py rfl rfl rfl (y_idx_s Tryz.underlying9 rfl rfl (by omega) (c := c0) (by rw [hs0]; rfl)) rfl ?_
    refine SPO_py rfl rfl rfl (y_eqlT rfl rfl hc0) rfl ?_
    refine SPO_py rfl rfl rfl (y_pick_f rfl rfl) rfl ?_
    refine SPO_p rfl (y_pick_t rfl rfl) rfl ?_
    refine SPO_p rfl (y_assign rfl) rfl ?_
    refine SPO_nil ?_
    refine thenP_n ?_
    refine SP_ret ?_
    refine bodyP_ret (H' := []) (Res1 rfl rfl) (by repeat (first | exact Part.nil _ | (apply Part.cons; (first | exact P0 | exact P1 | exact P2 | exact P3 | exact P4 | exact P5 | exact P6 | exact P7 | exact P8 | exact P9 | exact P10 | exact P11 | exact P12 | exact P13 | exact P14 | exact P15 | exact P16 | exact P17 | exact P18 | exact P19 | exact P20 | exact P21 | exact P22 | exact P23)) | (apply Part.flat; simp only [List.cons_append, List.nil_append]) | (apply Part.nilc))) ?_
    exact ⟨rfl, rfl⟩
  intro h5_8
  refine SPL_gy rfl rfl ?_
  refine SPL_y (y_move rfl) rfl ?_
  refine SPL_gy rfl rfl ?_
  refine SPL_y (y_fa fld_53_1 rfl) rfl ?_
  refine SPL_gy rfl rfl ?_
  refine SPL_y (y_load Tryz.isAgg3 rfl (by repeat (first | exact Cell.head rfl | apply Cell.tail))) rfl ?_
  refine SPL_gy rfl rfl ?_
  refine SPL_if (y_gtr rfl rfl) rfl ?_ ?_
  · intro h5_12
    omega
  intro h5_12
  refine SPL_gy rfl rfl ?_
  refine SPL_y (y_pick_t rfl rfl) rfl ?_
  refine SPL_y (y_pick_f rfl rfl) rfl ?_
  refine SPL_nil ?_
  refine thenP_n ?_
  refine SP_cond_f rfl ?_
  refine SP_skip ?_
  refine thenP_n ?_
  refine SP_seq ?_
  refine SP_seq ?_
  refine SP_region ?_
  refine SPL_y (y_fa fld_43_2 rfl) rfl ?_
  refine SPL_y (y_load Tryz.isAgg3 rfl (by repeat (first | exact Cell.head rfl | apply Cell.tail))) rfl ?_
  refine SPL_ifn (y_leq rfl rfl) rfl ?_ ?_
  · intro h7_2
    refine SPL_y (y_move rfl) rfl ?_
    refine SPL_gn rfl rfl rfl rfl ?_
    refine SPL_gn rfl rfl rfl rfl ?_
    refine SPL_gn rfl rfl rfl rfl ?_
    refine SPL_gn rfl rfl rfl rfl ?_
    refine SPL_gu rfl rfl rfl ?_
    refine SPL_gu rfl rfl rfl ?_
    refine SPL_gu rfl rfl rfl ?_
    refine SPL_gn rfl rfl rfl rfl ?_
    refine SPL_gn rfl rfl rfl rfl ?_
    refine SPL_gu rfl rfl rfl ?_
    refine SPL_gu rfl rfl rfl ?_
    refine SPL_gu rfl rfl rfl ?_
    refine SPL_gn rfl rfl rfl rfl ?_
    refine SPL_gn rfl rfl rfl rfl ?_
    refine SPL_gu rfl rfl rfl ?_
    refine SPL_gu rfl rfl rfl ?_
    refine SPL_gu rfl rfl rfl ?_
    refine SPL_gu rfl rfl rfl ?_
    refine SPL_gu rfl rfl rfl ?_
    refine SPL_gu rfl rfl rfl ?_
    refine SPL_gu rfl rfl rfl ?_
    refine SPL_gu rfl rfl rfl ?_
    refine SPL_gn rfl rfl rfl rfl ?_
    refine SPL_y (y_pick_f rfl rfl) rfl ?_
    refine SPL_nil ?_
    refine thenP_n ?_
    refine SP_cond_f rfl ?_
    refine SP_skip ?_
    refine thenP_n ?_
    refine SP_seq ?_
    refine SP_seq ?_
    refine SP_region ?_
    refine SPL_y (y_fa fld_53_0 rfl) rfl ?_
    refine SPL_y (y_load Tryz.isAgg51 rfl (by repeat (first | exact Cell.head rfl | apply Cell.tail))) rfl ?_
    refine SPL_if (y_neq rfl rfl) rfl ?_ ?_
    · intro h9_2
      refine SPL_nil ?_
      refine thenP_n ?_
      refine SP_cond_t rfl ?_
      refine SP_seq ?_
      refine SP_region ?_
      refine SPL_y (y_fa fld_53_2 rfl) rfl ?_
      refine SPL_y (y_load Tryz.isAgg3 rfl (by repeat (first | exact Cell.head rfl | apply Cell.tail))) rfl ?_
      refine SPL_y (y_eqlT rfl rfl (htrap (by omega) h9_2)) rfl ?_
      refine SPL_y (y_assign rfl) rfl ?_
      refine SPL_nil ?_
      refine thenP_n ?_
      refine SP_ret ?_
      refine thenP_ret (bodyP_ret (H' := []) (Res1 rfl rfl) (by repeat (first | exact Part.nil _ | (apply Part.cons; (first | exact P0 | exact P1 | exact P2 | exact P3 | exact P4 | exact P5 | exact P6 | exact P7 | exact P8 | exact P9 | exact P10 | exact P11 | exact P12 | exact P13 | exact P14 | exact P15 | exact P16 | exact P17 | exact P18 | exact P19 | exact P20 | exact P21 | exact P22 | exact P23)) | (apply Part.flat; simp only [List.cons_append, List.nil_append]) | (apply Part.nilc))) ?_)
      exact ⟨rfl, rfl⟩
    intro h9_2
    refine SPL_nil ?_
    refine thenP_n ?_
    refine SP_cond_f rfl ?_
    refine SP_skip ?_
    refine thenP_n ?_
    refine SP_seq ?_
    have h0 : ae = 0 := by omega
    refine SP_draw 999 [(0, 0), (2, 0), (3, 0), (1, 1), (4, 0), (5, 0), (6, 0), (7, 0), (8, 0), (9, 0), (12, 0), (13, 0), (10, 1), (11, 0), (14, 0), (15, 0), (16, 0), (17, 0)] mixed (by kernel_rfl) (fun _ _ _ _ _ h => h) (Part.refl _) ?_
    refine SPO_p rfl (y_fa fld_53_2 rfl) rfl ?_
    refine SPO_p rfl (y_move rfl) rfl ?_
    refine SPO_p rfl (y_len_s Tryz.underlying9 rfl) rfl ?_
    refine SPO_h rfl (y_load Tryz.isAgg3 rfl (by repeat (first | exact Cell.head rfl | apply Cell.tail))) rfl ?_
    refine SPO_p rfl (y_eqlT rfl rfl (hres h0).1) rfl ?_
    refine SPO_p rfl (y_move rfl) rfl ?_
    refine SPO_py rfl rfl rfl (y_move rfl) rfl ?_
    refine SPO_pyif rfl rfl rfl (y_seq0 rfl rfl) rfl ?_ ?_
    · intro h11_7
      refine SPO_py rfl rfl rfl (y_move rfl) rfl ?_
      refine SPO_gn (.inl rfl) rfl rfl rfl rfl rfl ?_
      refine SPO_gn (.inl rfl) rfl rfl rfl rfl rfl ?_
      refine SPO_gn (.inl rfl) rfl rfl rfl rfl rfl ?_
      refine SPO_gn (.inr rfl) rfl rfl rfl rfl rfl ?_
      refine SPO_gn (.inl rfl) rfl rfl rfl rfl rfl ?_
      refine SPO_gn (.inl rfl) rfl rfl rfl rfl rfl ?_
      refine SPO_py rfl rfl rfl (y_pick_t rfl rfl) rfl ?_
      refine SPO_p rfl (y_pick_t rfl rfl) rfl ?_
      refine SPO_p rfl (y_assign rfl) rfl ?_
      refine SPO_nil ?_
      refine thenP_n ?_
      refine SP_ret ?_
      refine bodyP_ret (H' := []) (Res1 rfl rfl) (by repeat (first | exact Part.nil _ | (apply Part.cons; (first | exact P0 | exact P1 | exact P2 | exact P3 | exact P4 | exact P5 | exact P6 | exact P7 | exact P8 | exact P9 | exact P10 | exact P11 | exact P12 | exact P13 | exact P14 | exact P15 | exact P16 | exact P17 | exact P18 | exact P19 | exact P20 | exact P21 | exact P22 | exact P23)) | (apply Part.flat; simp only [List.cons_append, List.nil_append]) | (apply Part.nilc))) ?_
      exact ⟨rfl, rfl⟩
    intro h11_7
    refine SPO_py rfl rfl rfl (y_move rfl) rfl ?_
    obtain ⟨c0, r0, r1, hs0, hr0⟩ := (hres h0).2.resolve_left (fun h => h11_7 (by rw [h]; rfl))
    have hc0 : (c0.toNat : Int) = c0.toNat := rfl
    refine SPO_py rfl rfl rfl (y_fa fld_53_3 rfl) rfl ?_
    refine SPO_py rfl rfl rfl (y_move rfl) rfl ?_
    refine SPO_py rfl rfl rfl (y_idx_s Tryz.underlying9 rfl rfl (by omega) (c := c0) (by rw [hr0]; rfl)) rfl ?_
    refine SPO_hy rfl rfl rfl (y_load Tryz.isAgg9 rfl (by repeat (first | exact Cell.head rfl | apply Cell.tail))) rfl ?_
    refine SPO_py rfl rfl rfl (y_idx_s Tryz.underlying9 rfl rfl (by omega) (c := c0) (by rw [hs0]; rfl)) rfl ?_
    refine SPO_py rfl rfl rfl (y_eqlT rfl rfl hc0) rfl ?_
    refine SPO_py rfl rfl rfl (y_pick_f rfl rfl) rfl ?_
    refine SPO_p rfl (y_pick_t rfl rfl) rfl ?_
    refine SPO_p rfl (y_assign rfl) rfl ?_
    refine SPO_nil ?_
    refine thenP_n ?_
    refine SP_ret ?_
    refine bodyP_ret (H' := []) (Res1 rfl rfl) (by repeat (first | exact Part.nil _ | (apply Part.cons; (first | exact P0 | exact P1 | exact P2 | exact P3 | exact P4 | exact P5 | exact P6 | exact P7 | exact P8 | exact P9 | exact P10 | exact P11 | exact P12 | exact P13 | exact P14 | exact P15 | exact P16 | exact P17 | exact P18 | exact P19 | exact P20 | exact P21 | exact P22 | exact P23)) | (apply Part.flat; simp only [List.cons_append, List.nil_append]) | (apply Part.nilc))) ?_
    exact ⟨rfl, rfl⟩
  intro h7_2
  refine SPL_y (y_move rfl) rfl ?_
  refine SPL_gy rfl rfl ?_
  refine SPL_y (y_fa fld_53_1 rfl) rfl ?_
  refine SPL_gy rfl rfl ?_
  refine SPL_y (y_load Tryz.isAgg3 rfl (by repeat (first | exact Cell.head rfl | apply Cell.tail))) rfl ?_
  refine SPL_gy rfl rfl ?_
  refine SPL_if (y_neq rfl rfl) rfl ?_ ?_
  · intro h7_6
    have := hfoot (by omega) (by omega); omega
  intro h7_6
  refine SPL_gy rfl rfl ?_
  refine SPL_y (y_move rfl) rfl ?_
  refine SPL_gy rfl rfl ?_
  refine SPL_y (y_fa fld_53_3 rfl) rfl ?_
  refine SPL_gy rfl rfl ?_
  refine SPL_y (y_load Tryz.isAgg9 rfl (by repeat (first | exact Cell.head rfl | apply Cell.tail))) rfl ?_
  refine SPL_gy rfl rfl ?_
  refine SPL_if (y_sne rfl rfl) rfl ?_ ?_
  · intro h7_10
    exact absurd (hfoot (by omega) (by omega)).2.1 h7_10
  intro h7_10
  refine SPL_gy rfl rfl ?_
  refine SPL_y (y_pick_f rfl rfl) rfl ?_
  refine SPL_gy rfl rfl ?_
  refine SPL_y (y_move rfl) rfl ?_
  refine SPL_gy rfl rfl ?_
  refine SPL_y (y_move rfl) rfl ?_
  refine SPL_gy rfl rfl ?_
  refine SPL_y (y_move rfl) rfl ?_
  refine SPL_gy rfl rfl ?_
  refine SPL_if (y_sne rfl rfl) rfl ?_ ?_
  · intro h7_15
    exact absurd (hfoot (by omega) (by omega)).2.2.1 h7_15
  intro h7_15
  refine SPL_gy rfl rfl ?_
  refine SPL_y (y_pick_f rfl rfl) rfl ?_
  refine SPL_gy rfl rfl ?_
  refine SPL_y (y_move rfl) rfl ?_
  refine SPL_gy rfl rfl ?_
  refine SPL_y (y_fa fld_53_0 rfl) rfl ?_
  refine SPL_gy rfl rfl ?_
  refine SPL_y (y_load Tryz.isAgg51 rfl (by repeat (first | exact Cell.head rfl | apply Cell.tail))) rfl ?_
  refine SPL_gy rfl rfl ?_
  refine SPL_ifn (y_neq rfl rfl) rfl ?_ ?_
  · intro h7_20
    refine SPL_gy rfl rfl ?_
    refine SPL_y (y_move rfl) rfl ?_
    refine SPL_gn rfl rfl rfl rfl ?_
    refine SPL_gn rfl rfl rfl rfl ?_
    refine SPL_gn rfl rfl rfl rfl ?_
    refine SPL_gy rfl rfl ?_
    refine SPL_y (y_pick_f rfl rfl) rfl ?_
    refine SPL_gy rfl rfl ?_
    refine SPL_y (y_pick_f rfl rfl) rfl ?_
    refine SPL_y (y_pick_t rfl rfl) rfl ?_
    refine SPL_nil ?_
    refine thenP_n ?_
    refine SP_cond_f rfl ?_
    refine SP_skip ?_
    refine thenP_n ?_
    refine SP_seq ?_
    refine SP_seq ?_
    refine SP_region ?_
    refine SPL_y (y_fa fld_53_0 rfl) rfl ?_
    refine SPL_y (y_load Tryz.isAgg51 rfl (by repeat (first | exact Cell.head rfl | apply Cell.tail))) rfl ?_
    refine SPL_if (y_neq rfl rfl) rfl ?_ ?_
    · intro h9_2
      refine SPL_nil ?_
      refine thenP_n ?_
      refine SP_cond_t rfl ?_
      refine SP_seq ?_
      refine SP_region ?_
      refine SPL_y (y_fa fld_53_2 rfl) rfl ?_
      refine SPL_y (y_load Tryz.isAgg3 rfl (by repeat (first | exact Cell.head rfl | apply Cell.tail))) rfl ?_
      refine SPL_y (y_eqlT rfl rfl (htrap (by omega) h9_2)) rfl ?_
      refine SPL_y (y_assign rfl) rfl ?_
      refine SPL_nil ?_
      refine thenP_n ?_
      refine SP_ret ?_
      refine thenP_ret (bodyP_ret (H' := []) (Res1 rfl rfl) (by repeat (first | exact Part.nil _ | (apply Part.cons; (first | exact P0 | exact P1 | exact P2 | exact P3 | exact P4 | exact P5 | exact P6 | exact P7 | exact P8 | exact P9 | exact P10 | exact P11 | exact P12 | exact P13 | exact P14 | exact P15 | exact P16 | exact P17 | exact P18 | exact P19 | exact P20 | exact P21 | exact P22 | exact P23)) | (apply Part.flat; simp only [List.cons_append, List.nil_append]) | (apply Part.nilc))) ?_)
      exact ⟨rfl, rfl⟩
    intro h9_2
    refine SPL_nil ?_
    refine thenP_n ?_
    refine SP_cond_f rfl ?_
    refine SP_skip ?_
    refine thenP_n ?_
    refine SP_seq ?_
    have h0 : ae = 0 := by omega
    refine SP_draw 999 [(0, 0), (2, 0), (3, 0), (1, 1), (4, 0), (5, 0), (6, 0), (7, 0), (8, 0), (9, 0), (12, 0), (13, 0), (10, 1), (11, 0), (14, 0), (15, 0), (16, 0), (17, 0)] mixed (by kernel_rfl) (fun _ _ _ _ _ h => h) (Part.refl _) ?_
    refine SPO_p rfl (y_fa fld_53_2 rfl) rfl ?_
    refine SPO_p rfl (y_move rfl) rfl ?_
    refine SPO_p rfl (y_len_s Tryz.underlying9 rfl) rfl ?_
    refine SPO_h rfl (y_load Tryz.isAgg3 rfl (by repeat (first | exact Cell.head rfl | apply Cell.tail))) rfl ?_
    refine SPO_p rfl (y_eqlT rfl rfl (hres h0).1) rfl ?_
    refine SPO_p rfl (y_move rfl) rfl ?_
    refine SPO_py rfl rfl rfl (y_move rfl) rfl ?_
    refine SPO_pyif rfl rfl rfl (y_seq0 rfl rfl) rfl ?_ ?_
    · intro h11_7
      refine SPO_py rfl rfl rfl (y_move rfl) rfl ?_
      refine SPO_gn (.inl rfl) rfl rfl rfl rfl rfl ?_
      refine SPO_gn (.inl rfl) rfl rfl rfl rfl rfl ?_
      refine SPO_gn (.inl rfl) rfl rfl rfl rfl rfl ?_
      refine SPO_gn (.inr rfl) rfl rfl rfl rfl rfl ?_
      refine SPO_gn (.inl rfl) rfl rfl rfl rfl rfl ?_
      refine SPO_gn (.inl rfl) rfl rfl rfl rfl rfl ?_
      refine SPO_py rfl rfl rfl (y_pick_t rfl rfl) rfl ?_
      refine SPO_p rfl (y_pick_t rfl rfl) rfl ?_
      refine SPO_p rfl (y_assign rfl) rfl ?_
      refine SPO_nil ?_
      refine thenP_n ?_
      refine SP_ret ?_
      refine bodyP_ret (H' := []) (Res1 rfl rfl) (by repeat (first | exact Part.nil _ | (apply Part.cons; (first | exact P0 | exact P1 | exact P2 | exact P3 | exact P4 | exact P5 | exact P6 | exact P7 | exact P8 | exact P9 | exact P10 | exact P11 | exact P12 | exact P13 | exact P14 | exact P15 | exact P16 | exact P17 | exact P18 | exact P19 | exact P20 | exact P21 | exact P22 | exact P23)) | (apply Part.flat; simp only [List.cons_append, List.nil_append]) | (apply Part.nilc))) ?_
      exact ⟨rfl, rfl⟩
    intro h11_7
    refine SPO_py rfl rfl rfl (y_move rfl) rfl ?_
    obtain ⟨c0, r0, r1, hs0, hr0⟩ := (hres h0).2.resolve_left (fun h => h11_7 (by rw [h]; rfl))
    have hc0 : (c0.toNat : Int) = c0.toNat := rfl
    refine SPO_py rfl rfl rfl (y_fa fld_53_3 rfl) rfl ?_
    refine SPO_py rfl rfl rfl (y_move rfl) rfl ?_
    refine SPO_py rfl rfl rfl (y_idx_s Tryz.underlying9 rfl rfl (by omega) (c := c0) (by rw [hr0]; rfl)) rfl ?_
    refine SPO_hy rfl rfl rfl (y_load Tryz.isAgg9 rfl (by repeat (first | exact Cell.head rfl | apply Cell.tail))) rfl ?_
    refine SPO_py rfl rfl rfl (y_idx_s Tryz.underlying9 rfl rfl (by omega) (c := c0) (by rw [hs0]; rfl)) rfl ?_
    refine SPO_py rfl rfl rfl (y_eqlT rfl rfl hc0) rfl ?_
    refine SPO_py rfl rfl rfl (y_pick_f rfl rfl) rfl ?_
    refine SPO_p rfl (y_pick_t rfl rfl) rfl ?_
    refine SPO_p rfl (y_assign rfl) rfl ?_
    refine SPO_nil ?_
    refine thenP_n ?_
    refine SP_ret ?_
    refine bodyP_ret (H' := []) (Res1 rfl rfl) (by repeat (first | exact Part.nil _ | (apply Part.cons; (first | exact P0 | exact P1 | exact P2 | exact P3 | exact P4 | exact P5 | exact P6 | exact P7 | exact P8 | exact P9 | exact P10 | exact P11 | exact P12 | exact P13 | exact P14 | exact P15 | exact P16 | exact P17 | exact P18 | exact P19 | exact P20 | exact P21 | exact P22 | exact P23)) | (apply Part.flat; simp only [List.cons_append, List.nil_append]) | (apply Part.nilc))) ?_
    exact ⟨rfl, rfl⟩
  intro h7_20
  refine SPL_gy rfl rfl ?_
  refine SPL_y (y_move rfl) rfl ?_
  refine SPL_gy rfl rfl ?_
  refine SPL_y (y_fa fld_53_0 rfl) rfl ?_
  refine SPL_gy rfl rfl ?_
  refine SPL_y (y_load Tryz.isAgg51 rfl (by repeat (first | exact Cell.head rfl | apply Cell.tail))) rfl ?_
  refine SPL_gy rfl rfl ?_
  refine SPL_if (y_neq rfl rfl) rfl ?_ ?_
  · intro h7_24
    have := (hfoot (by omega) (by omega)).2.2.2; omega
  intro h7_24
  refine SPL_gy rfl rfl ?_
  refine SPL_y (y_pick_t rfl rfl) rfl ?_
  refine SPL_gy rfl rfl ?_
  refine SPL_y (y_pick_f rfl rfl) rfl ?_
  refine SPL_y (y_pick_t rfl rfl) rfl ?_
  refine SPL_nil ?_
  refine thenP_n ?_
  refine SP_cond_f rfl ?_
  refine SP_skip ?_
  refine thenP_n ?_
  refine SP_seq ?_
  refine SP_seq ?_
  refine SP_region ?_
  refine SPL_y (y_fa fld_53_0 rfl) rfl ?_
  refine SPL_y (y_load Tryz.isAgg51 rfl (by repeat (first | exact Cell.head rfl | apply Cell.tail))) rfl ?_
  refine SPL_if (y_neq rfl rfl) rfl ?_ ?_
  · intro h9_2
    refine SPL_nil ?_
    refine thenP_n ?_
    refine SP_cond_t rfl ?_
    refine SP_seq ?_
    refine SP_region ?_
    refine SPL_y (y_fa fld_53_2 rfl) rfl ?_
    refine SPL_y (y_load Tryz.isAgg3 rfl (by repeat (first | exact Cell.head rfl | apply Cell.tail))) rfl ?_
    refine SPL_y (y_eqlT rfl rfl (htrap (by omega) h9_2)) rfl ?_
    refine SPL_y (y_assign rfl) rfl ?_
    refine SPL_nil ?_
    refine thenP_n ?_
    refine SP_ret ?_
    refine thenP_ret (bodyP_ret (H' := []) (Res1 rfl rfl) (by repeat (first | exact Part.nil _ | (apply Part.cons; (first | exact P0 | exact P1 | exact P2 | exact P3 | exact P4 | exact P5 | exact P6 | exact P7 | exact P8 | exact P9 | exact P10 | exact P11 | exact P12 | exact P13 | exact P14 | exact P15 | exact P16 | exact P17 | exact P18 | exact P19 | exact P20 | exact P21 | exact P22 | exact P23)) | (apply Part.flat; simp only [List.cons_append, List.nil_append]) | (apply Part.nilc))) ?_)
    exact ⟨rfl, rfl⟩
  intro h9_2
  refine SPL_nil ?_
  refine thenP_n ?_
  refine SP_cond_f rfl ?_
  refine SP_skip ?_
  refine thenP_n ?_
  refine SP_seq ?_
  have h0 : ae = 0 := by omega
  refine SP_draw 999 [(0, 0), (2, 0), (3, 0), (1, 1), (4, 0), (5, 0), (6, 0), (7, 0), (8, 0), (9, 0), (12, 0), (13, 0), (10, 1), (11, 0), (14, 0), (15, 0), (16, 0), (17, 0)] mixed (by kernel_rfl) (fun _ _ _ _ _ h => h) (Part.refl _) ?_
  refine SPO_p rfl (y_fa fld_53_2 rfl) rfl ?_
  refine SPO_p rfl (y_move rfl) rfl ?_
  refine SPO_p rfl (y_len_s Tryz.underlying9 rfl) rfl ?_
  refine SPO_h rfl (y_load Tryz.isAgg3 rfl (by repeat (first | exact Cell.head rfl | apply Cell.tail))) rfl ?_
  refine SPO_p rfl (y_eqlT rfl rfl (hres h0).1) rfl ?_
  refine SPO_p rfl (y_move rfl) rfl ?_
  refine SPO_py rfl rfl rfl (y_move rfl) rfl ?_
  refine SPO_pyif rfl rfl rfl (y_seq0 rfl rfl) rfl ?_ ?_
  · intro h11_7
    refine SPO_py rfl rfl rfl (y_move rfl) rfl ?_
    refine SPO_gn (.inl rfl) rfl rfl rfl rfl rfl ?_
    refine SPO_gn (.inl rfl) rfl rfl rfl rfl rfl ?_
    refine SPO_gn (.inl rfl) rfl rfl rfl rfl rfl ?_
    refine SPO_gn (.inr rfl) rfl rfl rfl rfl rfl ?_
    refine SPO_gn (.inl rfl) rfl rfl rfl rfl rfl ?_
    refine SPO_gn (.inl rfl) rfl rfl rfl rfl rfl ?_
    refine SPO_py rfl rfl rfl (y_pick_t rfl rfl) rfl ?_
    refine SPO_p rfl (y_pick_t rfl rfl) rfl ?_
    refine SPO_p rfl (y_assign rfl) rfl ?_
    refine SPO_nil ?_
    refine thenP_n ?_
    refine SP_ret ?_
    refine bodyP_ret (H' := []) (Res1 rfl rfl) (by repeat (first | exact Part.nil _ | (apply Part.cons; (first | exact P0 | exact P1 | exact P2 | exact P3 | exact P4 | exact P5 | exact P6 | exact P7 | exact P8 | exact P9 | exact P10 | exact P11 | exact P12 | exact P13 | exact P14 | exact P15 | exact P16 | exact P17 | exact P18 | exact P19 | exact P20 | exact P21 | exact P22 | exact P23)) | (apply Part.flat; simp only [List.cons_append, List.nil_append]) | (apply Part.nilc))) ?_
    exact ⟨rfl, rfl⟩
  intro h11_7
  refine SPO_py rfl rfl rfl (y_move rfl) rfl ?_
  obtain ⟨c0, r0, r1, hs0, hr0⟩ := (hres h0).2.resolve_left (fun h => h11_7 (by rw [h]; rfl))
  have hc0 : (c0.toNat : Int) = c0.toNat := rfl
  refine SPO_py rfl rfl rfl (y_fa fld_53_3 rfl) rfl ?_
  refine SPO_py rfl rfl rfl (y_move rfl) rfl ?_
  refine SPO_py rfl rfl rfl (y_idx_s Tryz.underlying9 rfl rfl (by omega) (c := c0) (by rw [hr0]; rfl)) rfl ?_
  refine SPO_hy rfl rfl rfl (y_load Tryz.isAgg9 rfl (by repeat (first | exact Cell.head rfl | apply Cell.tail))) rfl ?_
  refine SPO_py rfl rfl rfl (y_idx_s Tryz.underlying9 rfl rfl (by omega) (c := c0) (by rw [hs0]; rfl)) rfl ?_
  refine SPO_py rfl rfl rfl (y_eqlT rfl rfl hc0) rfl ?_
  refine SPO_py rfl rfl rfl (y_pick_f rfl rfl) rfl ?_
  refine SPO_p rfl (y_pick_t rfl rfl) rfl ?_
  refine SPO_p rfl (y_assign rfl) rfl ?_
  refine SPO_nil ?_
  refine thenP_n ?_
  refine SP_ret ?_
  refine bodyP_ret (H' := []) (Res1 rfl rfl) (by repeat (first | exact Part.nil _ | (apply Part.cons; (first | exact P0 | exact P1 | exact P2 | exact P3 | exact P4 | exact P5 | exact P6 | exact P7 | exact P8 | exact P9 | exact P10 | exact P11 | exact P12 | exact P13 | exact P14 | exact P15 | exact P16 | exact P17 | exact P18 | exact P19 | exact P20 | exact P21 | exact P22 | exact P23)) | (apply Part.flat; simp only [List.cons_append, List.nil_append]) | (apply Part.nilc))) ?_
  exact ⟨rfl, rfl⟩

end Go.Sl
