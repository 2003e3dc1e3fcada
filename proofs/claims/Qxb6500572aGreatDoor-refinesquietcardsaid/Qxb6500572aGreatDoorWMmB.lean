/- Walks: package machm, the integer unit and Show (made by program out of short notes) -/
import Derived.Test.Qxb6500572aGreatDoorWMm
namespace Go.Sl
open Go Go.Wl Go.Proofs
set_option maxRecDepth 100000
set_option linter.unusedVariables false
set_option linter.unusedSimpArgs false
theorem mm_truth (b : Bool) : Spec Tryz.prog 167 [.bool b] [] (Ret fun v H => v = I (tr b) ∧ H = []) := by
  refine Spec_enter Tryz.func167 rfl Tryz.ntmps167 rfl ?_
  show SP _ _ _ _ _ [(0, _)] _
  refine SP_seq ?_
  refine SP_region ?_
  refine SPL_y (y_assign rfl) rfl ?_
  refine SPL_nil ?_
  refine thenP_n ?_
  refine SP_seq ?_
  refine SP_seq ?_
  refine SP_region ?_
  refine SPL_y (y_move rfl) rfl ?_
  refine SPL_nil ?_
  refine thenP_n ?_
  refine SP_cond_b rfl ?_ ?_
  · intro hc3
    refine SP_seq ?_
    refine SP_region ?_
    refine SPL_y (y_assign rfl) rfl ?_
    refine SPL_nil ?_
    refine thenP_n ?_
    refine SP_ret ?_
    refine thenP_ret (bodyP_ret (Res1 rfl rfl) (Part.refl _) ?_)
    refine ⟨?_, rfl⟩
    rw [hc3]; rfl
  intro hc3
  refine SP_skip ?_
  refine thenP_n ?_
  refine SP_seq ?_
  refine SP_region ?_
  refine SPL_y (y_assign rfl) rfl ?_
  refine SPL_nil ?_
  refine thenP_n ?_
  refine SP_ret ?_
  refine bodyP_ret (Res1 rfl rfl) (Part.refl _) ?_
  refine ⟨?_, rfl⟩
  rw [hc3]; rfl

set_option maxHeartbeats 4000000 in
theorem mm_bin (kind a b mask top : Int) (hub : b ≠ 0 → bitI .and .u64 (IntKind.u64.wrap b) mask ≠ 0) (hsh : 0 ≤ bitI .and .i64 b top) : Spec Tryz.prog 168 [I kind, I a, I b, .int .u64 mask, I top] [] (Ret fun v H => v = .tuple #[I (mbin kind a b mask top).1, I (mbin kind a b mask top).2] ∧ H = []) := by
  refine Spec_enter Tryz.func168 rfl Tryz.ntmps168 rfl ?_
  show SP _ _ _ _ _ [(0, _), (1, _), (2, _), (3, _), (4, _)] _
  refine SP_seq ?_
  refine SP_region ?_
  refine SPL_y (y_assign rfl) rfl ?_
  refine SPL_y (y_assign rfl) rfl ?_
  refine SPL_nil ?_
  refine thenP_n ?_
  refine SP_seq ?_
  refine SP_region ?_
  refine SPL_y (y_move rfl) rfl ?_
  refine SPL_y (y_conv Tryz.underlying3 Tryz.underlying142 rfl rfl) rfl ?_
  refine SPL_y (y_move rfl) rfl ?_
  refine SPL_y (y_and rfl rfl rfl) rfl ?_
  refine SPL_y (y_move rfl) rfl ?_
  refine SPL_y (y_conv Tryz.underlying3 Tryz.underlying142 rfl rfl) rfl ?_
  refine SPL_y (y_move rfl) rfl ?_
  refine SPL_y (y_and rfl rfl rfl) rfl ?_
  refine SPL_y (y_move rfl) rfl ?_
  refine SPL_y (y_move rfl) rfl ?_
  refine SPL_y (y_and rfl rfl rfl) rfl ?_
  refine SPL_y (y_assign rfl) rfl ?_
  refine SPL_y (y_assign rfl) rfl ?_
  refine SPL_y (y_assign rfl) rfl ?_
  refine SPL_nil ?_
  refine thenP_n ?_
  refine SP_seq ?_
  refine SP_seq ?_
  refine SP_region ?_
  refine SPL_y (y_move rfl) rfl ?_
  refine SPL_ifn (y_geq rfl rfl) rfl ?_ ?_
  · intro h2_1
    refine SPL_y (y_move rfl) rfl ?_
    refine SPL_gn rfl rfl rfl rfl ?_
    refine SPL_gn rfl rfl rfl rfl ?_
    refine SPL_y (y_pick_f rfl rfl) rfl ?_
    refine SPL_y (y_move rfl) rfl ?_
    refine SPL_gn rfl rfl rfl rfl ?_
    refine SPL_gn rfl rfl rfl rfl ?_
    refine SPL_y (y_pick_f rfl rfl) rfl ?_
    refine SPL_nil ?_
    refine thenP_n ?_
    refine SP_cond_f rfl ?_
    refine SP_skip ?_
    refine thenP_n ?_
    refine SP_seq ?_
    refine SP_seq ?_
    refine SP_region ?_
    refine SPL_y (y_move rfl) rfl ?_
    refine SPL_nil ?_
    refine thenP_n ?_
    refine SP_block ?_
    refine SP_seq ?_
    refine SP_region ?_
    refine SPL_if (y_eql rfl rfl) rfl ?_ ?_
    · intro h5_0
      refine SPL_y (y_assign rfl) rfl ?_
      refine SPL_nil ?_
      refine thenP_n ?_
      refine SP_cond_t rfl ?_
      refine SP_seq ?_
      refine SP_region ?_
      refine SPL_y (y_move rfl) rfl ?_
      refine SPL_y (y_move rfl) rfl ?_
      refine SPL_y (y_addw rfl rfl rfl) rfl ?_
      refine SPL_y (y_assign rfl) rfl ?_
      refine SPL_y (y_assign rfl) rfl ?_
      refine SPL_nil ?_
      refine thenP_n ?_
      refine SP_ret ?_
      refine inBlockP_ret (thenP_ret (bodyP_ret (Res2 rfl rfl rfl) (Part.refl _) ?_))
      first
        | (exfalso; omega)
        | (refine ⟨?_, rfl⟩
           unfold mbin
           simp only [Int.zero_sub]
           repeat (first | rw [if_pos (by omega)] | rw [if_neg (by omega)])
           done)
        | (refine ⟨?_, rfl⟩
           unfold mbin
           repeat (first | rw [if_pos (by omega)] | rw [if_neg (by omega)])
           try rfl)
    intro h5_0
    refine SPL_y (y_assign rfl) rfl ?_
    refine SPL_nil ?_
    refine thenP_n ?_
    refine SP_cond_f rfl ?_
    refine SP_seq ?_
    refine SP_region ?_
    refine SPL_if (y_eql rfl rfl) rfl ?_ ?_
    · intro h7_0
      refine SPL_y (y_assign rfl) rfl ?_
      refine SPL_nil ?_
      refine thenP_n ?_
      refine SP_cond_t rfl ?_
      refine SP_seq ?_
      refine SP_region ?_
      refine SPL_y (y_move rfl) rfl ?_
      refine SPL_y (y_move rfl) rfl ?_
      refine SPL_y (y_subw rfl rfl rfl) rfl ?_
      refine SPL_y (y_assign rfl) rfl ?_
      refine SPL_y (y_assign rfl) rfl ?_
      refine SPL_nil ?_
      refine thenP_n ?_
      refine SP_ret ?_
      refine inBlockP_ret (thenP_ret (bodyP_ret (Res2 rfl rfl rfl) (Part.refl _) ?_))
      first
        | (exfalso; omega)
        | (refine ⟨?_, rfl⟩
           unfold mbin
           simp only [Int.zero_sub]
           repeat (first | rw [if_pos (by omega)] | rw [if_neg (by omega)])
           done)
        | (refine ⟨?_, rfl⟩
           unfold mbin
           repeat (first | rw [if_pos (by omega)] | rw [if_neg (by omega)])
           try rfl)
    intro h7_0
    refine SPL_y (y_assign rfl) rfl ?_
    refine SPL_nil ?_
    refine thenP_n ?_
    refine SP_cond_f rfl ?_
    refine SP_seq ?_
    refine SP_region ?_
    refine SPL_if (y_eql rfl rfl) rfl ?_ ?_
    · intro h9_0
      refine SPL_y (y_assign rfl) rfl ?_
      refine SPL_nil ?_
      refine thenP_n ?_
      refine SP_cond_t rfl ?_
      refine SP_seq ?_
      refine SP_region ?_
      refine SPL_y (y_move rfl) rfl ?_
      refine SPL_y (y_move rfl) rfl ?_
      refine SPL_y (y_mulw rfl rfl rfl) rfl ?_
      refine SPL_y (y_assign rfl) rfl ?_
      refine SPL_y (y_assign rfl) rfl ?_
      refine SPL_nil ?_
      refine thenP_n ?_
      refine SP_ret ?_
      refine inBlockP_ret (thenP_ret (bodyP_ret (Res2 rfl rfl rfl) (Part.refl _) ?_))
      first
        | (exfalso; omega)
        | (refine ⟨?_, rfl⟩
           unfold mbin
           simp only [Int.zero_sub]
           repeat (first | rw [if_pos (by omega)] | rw [if_neg (by omega)])
           done)
        | (refine ⟨?_, rfl⟩
           unfold mbin
           repeat (first | rw [if_pos (by omega)] | rw [if_neg (by omega)])
           try rfl)
    intro h9_0
    refine SPL_y (y_assign rfl) rfl ?_
    refine SPL_nil ?_
    refine thenP_n ?_
    refine SP_cond_f rfl ?_
    refine SP_seq ?_
    refine SP_region ?_
    refine SPL_if (y_eql rfl rfl) rfl ?_ ?_
    · intro h11_0
      refine SPL_y (y_assign rfl) rfl ?_
      refine SPL_nil ?_
      refine thenP_n ?_
      refine SP_cond_t rfl ?_
      refine SP_seq ?_
      refine SP_seq ?_
      refine SP_region ?_
      refine SPL_y (y_move rfl) rfl ?_
      refine SPL_if (y_eql rfl rfl) rfl ?_ ?_
      · intro h12_1
        refine SPL_nil ?_
        refine thenP_n ?_
        refine SP_cond_t rfl ?_
        refine SP_seq ?_
        refine SP_region ?_
        refine SPL_y (y_move rfl) rfl ?_
        refine SPL_y (y_neg rfl rfl) rfl ?_
        refine SPL_y (y_assign rfl) rfl ?_
        refine SPL_y (y_assign rfl) rfl ?_
        refine SPL_nil ?_
        refine thenP_n ?_
        refine SP_ret ?_
        refine thenP_ret (inBlockP_ret (thenP_ret (bodyP_ret (Res2 rfl rfl rfl) (Part.refl _) ?_)))
        first
          | (exfalso; omega)
          | (refine ⟨?_, rfl⟩
             unfold mbin
             simp only [Int.zero_sub]
             repeat (first | rw [if_pos (by omega)] | rw [if_neg (by omega)])
             done)
          | (refine ⟨?_, rfl⟩
             unfold mbin
             repeat (first | rw [if_pos (by omega)] | rw [if_neg (by omega)])
             try rfl)
      intro h12_1
      refine SPL_nil ?_
      refine thenP_n ?_
      refine SP_cond_f rfl ?_
      refine SP_skip ?_
      refine thenP_n ?_
      refine SP_seq ?_
      refine SP_region ?_
      refine SPL_y (y_move rfl) rfl ?_
      refine SPL_y (y_move rfl) rfl ?_
      refine SPL_y (y_quo rfl rfl (by omega) rfl) rfl ?_
      refine SPL_y (y_assign rfl) rfl ?_
      refine SPL_y (y_assign rfl) rfl ?_
      refine SPL_nil ?_
      refine thenP_n ?_
      refine SP_ret ?_
      refine inBlockP_ret (thenP_ret (bodyP_ret (Res2 rfl rfl rfl) (Part.refl _) ?_))
      first
        | (exfalso; omega)
        | (refine ⟨?_, rfl⟩
           unfold mbin
           simp only [Int.zero_sub]
           repeat (first | rw [if_pos (by omega)] | rw [if_neg (by omega)])
           done)
        | (refine ⟨?_, rfl⟩
           unfold mbin
           repeat (first | rw [if_pos (by omega)] | rw [if_neg (by omega)])
           try rfl)
    intro h11_0
    refine SPL_y (y_assign rfl) rfl ?_
    refine SPL_nil ?_
    refine thenP_n ?_
    refine SP_cond_f rfl ?_
    refine SP_seq ?_
    refine SP_region ?_
    refine SPL_if (y_eql rfl rfl) rfl ?_ ?_
    · intro h15_0
      refine SPL_y (y_assign rfl) rfl ?_
      refine SPL_nil ?_
      refine thenP_n ?_
      refine SP_cond_t rfl ?_
      refine SP_seq ?_
      refine SP_region ?_
      refine SPL_y (y_move rfl) rfl ?_
      refine SPL_y (y_move rfl) rfl ?_
      refine SPL_y (y_quo rfl rfl (hub (by omega)) rfl) rfl ?_
      refine SPL_y (y_conv Tryz.underlying142 Tryz.underlying3 rfl rfl) rfl ?_
      refine SPL_y (y_assign rfl) rfl ?_
      refine SPL_y (y_assign rfl) rfl ?_
      refine SPL_nil ?_
      refine thenP_n ?_
      refine SP_ret ?_
      refine inBlockP_ret (thenP_ret (bodyP_ret (Res2 rfl rfl rfl) (Part.refl _) ?_))
      first
        | (exfalso; omega)
        | (refine ⟨?_, rfl⟩
           unfold mbin
           simp only [Int.zero_sub]
           repeat (first | rw [if_pos (by omega)] | rw [if_neg (by omega)])
           done)
        | (refine ⟨?_, rfl⟩
           unfold mbin
           repeat (first | rw [if_pos (by omega)] | rw [if_neg (by omega)])
           try rfl)
    intro h15_0
    refine SPL_y (y_assign rfl) rfl ?_
    refine SPL_nil ?_
    refine thenP_n ?_
    refine SP_cond_f rfl ?_
    refine SP_seq ?_
    refine SP_region ?_
    refine SPL_if (y_eql rfl rfl) rfl ?_ ?_
    · intro h17_0
      refine SPL_y (y_assign rfl) rfl ?_
      refine SPL_nil ?_
      refine thenP_n ?_
      refine SP_cond_t rfl ?_
      refine SP_seq ?_
      refine SP_seq ?_
      refine SP_region ?_
      refine SPL_y (y_move rfl) rfl ?_
      refine SPL_if (y_eql rfl rfl) rfl ?_ ?_
      · intro h18_1
        refine SPL_nil ?_
        refine thenP_n ?_
        refine SP_cond_t rfl ?_
        refine SP_seq ?_
        refine SP_region ?_
        refine SPL_y (y_assign rfl) rfl ?_
        refine SPL_y (y_assign rfl) rfl ?_
        refine SPL_nil ?_
        refine thenP_n ?_
        refine SP_ret ?_
        refine thenP_ret (inBlockP_ret (thenP_ret (bodyP_ret (Res2 rfl rfl rfl) (Part.refl _) ?_)))
        first
          | (exfalso; omega)
          | (refine ⟨?_, rfl⟩
             unfold mbin
             simp only [Int.zero_sub]
             repeat (first | rw [if_pos (by omega)] | rw [if_neg (by omega)])
             done)
          | (refine ⟨?_, rfl⟩
             unfold mbin
             repeat (first | rw [if_pos (by omega)] | rw [if_neg (by omega)])
             try rfl)
      intro h18_1
      refine SPL_nil ?_
      refine thenP_n ?_
      refine SP_cond_f rfl ?_
      refine SP_skip ?_
      refine thenP_n ?_
      refine SP_seq ?_
      refine SP_region ?_
      refine SPL_y (y_move rfl) rfl ?_
      refine SPL_y (y_move rfl) rfl ?_
      refine SPL_y (y_rem rfl rfl (by omega) rfl) rfl ?_
      refine SPL_y (y_assign rfl) rfl ?_
      refine SPL_y (y_assign rfl) rfl ?_
      refine SPL_nil ?_
      refine thenP_n ?_
      refine SP_ret ?_
      refine inBlockP_ret (thenP_ret (bodyP_ret (Res2 rfl rfl rfl) (Part.refl _) ?_))
      first
        | (exfalso; omega)
        | (refine ⟨?_, rfl⟩
           unfold mbin
           simp only [Int.zero_sub]
           repeat (first | rw [if_pos (by omega)] | rw [if_neg (by omega)])
           done)
        | (refine ⟨?_, rfl⟩
           unfold mbin
           repeat (first | rw [if_pos (by omega)] | rw [if_neg (by omega)])
           try rfl)
    intro h17_0
    refine SPL_y (y_assign rfl) rfl ?_
    refine SPL_nil ?_
    refine thenP_n ?_
    refine SP_cond_f rfl ?_
    refine SP_seq ?_
    refine SP_region ?_
    refine SPL_if (y_eql rfl rfl) rfl ?_ ?_
    · intro h21_0
      refine SPL_y (y_assign rfl) rfl ?_
      refine SPL_nil ?_
      refine thenP_n ?_
      refine SP_cond_t rfl ?_
      refine SP_seq ?_
      refine SP_region ?_
      refine SPL_y (y_move rfl) rfl ?_
      refine SPL_y (y_move rfl) rfl ?_
      refine SPL_y (y_rem rfl rfl (hub (by omega)) rfl) rfl ?_
      refine SPL_y (y_conv Tryz.underlying142 Tryz.underlying3 rfl rfl) rfl ?_
      refine SPL_y (y_assign rfl) rfl ?_
      refine SPL_y (y_assign rfl) rfl ?_
      refine SPL_nil ?_
      refine thenP_n ?_
      refine SP_ret ?_
      refine inBlockP_ret (thenP_ret (bodyP_ret (Res2 rfl rfl rfl) (Part.refl _) ?_))
      first
        | (exfalso; omega)
        | (refine ⟨?_, rfl⟩
           unfold mbin
           simp only [Int.zero_sub]
           repeat (first | rw [if_pos (by omega)] | rw [if_neg (by omega)])
           done)
        | (refine ⟨?_, rfl⟩
           unfold mbin
           repeat (first | rw [if_pos (by omega)] | rw [if_neg (by omega)])
           try rfl)
    intro h21_0
    refine SPL_y (y_assign rfl) rfl ?_
    refine SPL_nil ?_
    refine thenP_n ?_
    refine SP_cond_f rfl ?_
    refine SP_seq ?_
    refine SP_region ?_
    refine SPL_if (y_eql rfl rfl) rfl ?_ ?_
    · intro h23_0
      refine SPL_y (y_assign rfl) rfl ?_
      refine SPL_nil ?_
      refine thenP_n ?_
      refine SP_cond_t rfl ?_
      refine SP_seq ?_
      refine SP_region ?_
      refine SPL_y (y_move rfl) rfl ?_
      refine SPL_y (y_move rfl) rfl ?_
      refine SPL_y (y_and rfl rfl rfl) rfl ?_
      refine SPL_y (y_assign rfl) rfl ?_
      refine SPL_y (y_assign rfl) rfl ?_
      refine SPL_nil ?_
      refine thenP_n ?_
      refine SP_ret ?_
      refine inBlockP_ret (thenP_ret (bodyP_ret (Res2 rfl rfl rfl) (Part.refl _) ?_))
      first
        | (exfalso; omega)
        | (refine ⟨?_, rfl⟩
           unfold mbin
           simp only [Int.zero_sub]
           repeat (first | rw [if_pos (by omega)] | rw [if_neg (by omega)])
           done)
        | (refine ⟨?_, rfl⟩
           unfold mbin
           repeat (first | rw [if_pos (by omega)] | rw [if_neg (by omega)])
           try rfl)
    intro h23_0
    refine SPL_y (y_assign rfl) rfl ?_
    refine SPL_nil ?_
    refine thenP_n ?_
    refine SP_cond_f rfl ?_
    refine SP_seq ?_
    refine SP_region ?_
    refine SPL_if (y_eql rfl rfl) rfl ?_ ?_
    · intro h25_0
      refine SPL_y (y_assign rfl) rfl ?_
      refine SPL_nil ?_
      refine thenP_n ?_
      refine SP_cond_t rfl ?_
      refine SP_seq ?_
      refine SP_region ?_
      refine SPL_y (y_move rfl) rfl ?_
      refine SPL_y (y_move rfl) rfl ?_
      refine SPL_y (y_or rfl rfl rfl) rfl ?_
      refine SPL_y (y_assign rfl) rfl ?_
      refine SPL_y (y_assign rfl) rfl ?_
      refine SPL_nil ?_
      refine thenP_n ?_
      refine SP_ret ?_
      refine inBlockP_ret (thenP_ret (bodyP_ret (Res2 rfl rfl rfl) (Part.refl _) ?_))
      first
        | (exfalso; omega)
        | (refine ⟨?_, rfl⟩
           unfold mbin
           simp only [Int.zero_sub]
           repeat (first | rw [if_pos (by omega)] | rw [if_neg (by omega)])
           done)
        | (refine ⟨?_, rfl⟩
           unfold mbin
           repeat (first | rw [if_pos (by omega)] | rw [if_neg (by omega)])
           try rfl)
    intro h25_0
    refine SPL_y (y_assign rfl) rfl ?_
    refine SPL_nil ?_
    refine thenP_n ?_
    refine SP_cond_f rfl ?_
    refine SP_seq ?_
    refine SP_region ?_
    refine SPL_if (y_eql rfl rfl) rfl ?_ ?_
    · intro h27_0
      refine SPL_y (y_assign rfl) rfl ?_
      refine SPL_nil ?_
      refine thenP_n ?_
      refine SP_cond_t rfl ?_
      refine SP_seq ?_
      refine SP_region ?_
      refine SPL_y (y_move rfl) rfl ?_
      refine SPL_y (y_move rfl) rfl ?_
      refine SPL_y (y_xor rfl rfl rfl) rfl ?_
      refine SPL_y (y_assign rfl) rfl ?_
      refine SPL_y (y_assign rfl) rfl ?_
      refine SPL_nil ?_
      refine thenP_n ?_
      refine SP_ret ?_
      refine inBlockP_ret (thenP_ret (bodyP_ret (Res2 rfl rfl rfl) (Part.refl _) ?_))
      first
        | (exfalso; omega)
        | (refine ⟨?_, rfl⟩
           unfold mbin
           simp only [Int.zero_sub]
           repeat (first | rw [if_pos (by omega)] | rw [if_neg (by omega)])
           done)
        | (refine ⟨?_, rfl⟩
           unfold mbin
           repeat (first | rw [if_pos (by omega)] | rw [if_neg (by omega)])
           try rfl)
    intro h27_0
    refine SPL_y (y_assign rfl) rfl ?_
    refine SPL_nil ?_
    refine thenP_n ?_
    refine SP_cond_f rfl ?_
    refine SP_seq ?_
    refine SP_region ?_
    refine SPL_if (y_eql rfl rfl) rfl ?_ ?_
    · intro h29_0
      refine SPL_y (y_assign rfl) rfl ?_
      refine SPL_nil ?_
      refine thenP_n ?_
      refine SP_cond_t rfl ?_
      refine SP_seq ?_
      refine SP_region ?_
      refine SPL_y (y_move rfl) rfl ?_
      refine SPL_y (y_move rfl) rfl ?_
      refine SPL_y (y_shl rfl rfl hsh rfl) rfl ?_
      refine SPL_y (y_assign rfl) rfl ?_
      refine SPL_y (y_assign rfl) rfl ?_
      refine SPL_nil ?_
      refine thenP_n ?_
      refine SP_ret ?_
      refine inBlockP_ret (thenP_ret (bodyP_ret (Res2 rfl rfl rfl) (Part.refl _) ?_))
      first
        | (exfalso; omega)
        | (refine ⟨?_, rfl⟩
           unfold mbin
           simp only [Int.zero_sub]
           repeat (first | rw [if_pos (by omega)] | rw [if_neg (by omega)])
           done)
        | (refine ⟨?_, rfl⟩
           unfold mbin
           repeat (first | rw [if_pos (by omega)] | rw [if_neg (by omega)])
           try rfl)
    intro h29_0
    refine SPL_y (y_assign rfl) rfl ?_
    refine SPL_nil ?_
    refine thenP_n ?_
    refine SP_cond_f rfl ?_
    refine SP_seq ?_
    refine SP_region ?_
    refine SPL_if (y_eql rfl rfl) rfl ?_ ?_
    · intro h31_0
      refine SPL_y (y_assign rfl) rfl ?_
      refine SPL_nil ?_
      refine thenP_n ?_
      refine SP_cond_t rfl ?_
      refine SP_seq ?_
      refine SP_region ?_
      refine SPL_y (y_move rfl) rfl ?_
      refine SPL_y (y_move rfl) rfl ?_
      refine SPL_y (y_shr rfl rfl hsh rfl) rfl ?_
      refine SPL_y (y_assign rfl) rfl ?_
      refine SPL_y (y_assign rfl) rfl ?_
      refine SPL_nil ?_
      refine thenP_n ?_
      refine SP_ret ?_
      refine inBlockP_ret (thenP_ret (bodyP_ret (Res2 rfl rfl rfl) (Part.refl _) ?_))
      first
        | (exfalso; omega)
        | (refine ⟨?_, rfl⟩
           unfold mbin
           simp only [Int.zero_sub]
           repeat (first | rw [if_pos (by omega)] | rw [if_neg (by omega)])
           done)
        | (refine ⟨?_, rfl⟩
           unfold mbin
           repeat (first | rw [if_pos (by omega)] | rw [if_neg (by omega)])
           try rfl)
    intro h31_0
    refine SPL_y (y_assign rfl) rfl ?_
    refine SPL_nil ?_
    refine thenP_n ?_
    refine SP_cond_f rfl ?_
    refine SP_seq ?_
    refine SP_region ?_
    refine SPL_if (y_eql rfl rfl) rfl ?_ ?_
    · intro h33_0
      refine SPL_y (y_assign rfl) rfl ?_
      refine SPL_nil ?_
      refine thenP_n ?_
      refine SP_cond_t rfl ?_
      refine SP_seq ?_
      refine SP_region ?_
      refine SPL_y (y_move rfl) rfl ?_
      refine SPL_y (y_move rfl) rfl ?_
      refine SPL_y (y_shr rfl rfl hsh rfl) rfl ?_
      refine SPL_y (y_conv Tryz.underlying142 Tryz.underlying3 rfl rfl) rfl ?_
      refine SPL_y (y_assign rfl) rfl ?_
      refine SPL_y (y_assign rfl) rfl ?_
      refine SPL_nil ?_
      refine thenP_n ?_
      refine SP_ret ?_
      refine inBlockP_ret (thenP_ret (bodyP_ret (Res2 rfl rfl rfl) (Part.refl _) ?_))
      first
        | (exfalso; omega)
        | (refine ⟨?_, rfl⟩
           unfold mbin
           simp only [Int.zero_sub]
           repeat (first | rw [if_pos (by omega)] | rw [if_neg (by omega)])
           done)
        | (refine ⟨?_, rfl⟩
           unfold mbin
           repeat (first | rw [if_pos (by omega)] | rw [if_neg (by omega)])
           try rfl)
    intro h33_0
    refine SPL_y (y_assign rfl) rfl ?_
    refine SPL_nil ?_
    refine thenP_n ?_
    refine SP_cond_f rfl ?_
    refine SP_seq ?_
    refine SP_region ?_
    refine SPL_if (y_eql rfl rfl) rfl ?_ ?_
    · intro h35_0
      refine SPL_y (y_assign rfl) rfl ?_
      refine SPL_nil ?_
      refine thenP_n ?_
      refine SP_cond_t rfl ?_
      refine SP_seq ?_
      refine SP_region ?_
      refine SPL_y (y_move rfl) rfl ?_
      refine SPL_y (y_move rfl) rfl ?_
      refine SPL_y (y_eql rfl rfl) rfl ?_
      refine SPL_one rfl (SP1_call (mm_truth _) Tryz.call167 rfl rfl (by repeat (first | exact Part.nil _ | (apply Part.cons; (first | exact P0 | exact P1 | exact P2 | exact P3 | exact P4 | exact P5 | exact P6 | exact P7 | exact P8 | exact P9 | exact P10 | exact P11 | exact P12 | exact P13 | exact P14 | exact P15 | exact P16 | exact P17 | exact P18 | exact P19 | exact P20 | exact P21 | exact P22 | exact P23)) | (apply Part.flat; simp only [List.cons_append, List.nil_append]) | (apply Part.nilc))) ?_)
      rintro v post H' ⟨rfl, rfl⟩ hH
      try simp only [List.cons_append, List.nil_append] at hH
      subst hH
      refine SPL_y (y_assign rfl) rfl ?_
      refine SPL_y (y_assign rfl) rfl ?_
      refine SPL_nil ?_
      refine thenP_n ?_
      refine SP_ret ?_
      refine inBlockP_ret (thenP_ret (bodyP_ret (Res2 rfl rfl rfl) (Part.refl _) ?_))
      first
        | (exfalso; omega)
        | (refine ⟨?_, rfl⟩
           unfold mbin
           simp only [Int.zero_sub]
           repeat (first | rw [if_pos (by omega)] | rw [if_neg (by omega)])
           done)
        | (refine ⟨?_, rfl⟩
           unfold mbin
           repeat (first | rw [if_pos (by omega)] | rw [if_neg (by omega)])
           try rfl)
    intro h35_0
    refine SPL_y (y_assign rfl) rfl ?_
    refine SPL_nil ?_
    refine thenP_n ?_
    refine SP_cond_f rfl ?_
    refine SP_seq ?_
    refine SP_region ?_
    refine SPL_if (y_eql rfl rfl) rfl ?_ ?_
    · intro h37_0
      refine SPL_y (y_assign rfl) rfl ?_
      refine SPL_nil ?_
      refine thenP_n ?_
      refine SP_cond_t rfl ?_
      refine SP_seq ?_
      refine SP_region ?_
      refine SPL_y (y_move rfl) rfl ?_
      refine SPL_y (y_move rfl) rfl ?_
      refine SPL_y (y_lss rfl rfl) rfl ?_
      refine SPL_one rfl (SP1_call (mm_truth _) Tryz.call167 rfl rfl (by repeat (first | exact Part.nil _ | (apply Part.cons; (first | exact P0 | exact P1 | exact P2 | exact P3 | exact P4 | exact P5 | exact P6 | exact P7 | exact P8 | exact P9 | exact P10 | exact P11 | exact P12 | exact P13 | exact P14 | exact P15 | exact P16 | exact P17 | exact P18 | exact P19 | exact P20 | exact P21 | exact P22 | exact P23)) | (apply Part.flat; simp only [List.cons_append, List.nil_append]) | (apply Part.nilc))) ?_)
      rintro v post H' ⟨rfl, rfl⟩ hH
      try simp only [List.cons_append, List.nil_append] at hH
      subst hH
      refine SPL_y (y_assign rfl) rfl ?_
      refine SPL_y (y_assign rfl) rfl ?_
      refine SPL_nil ?_
      refine thenP_n ?_
      refine SP_ret ?_
      refine inBlockP_ret (thenP_ret (bodyP_ret (Res2 rfl rfl rfl) (Part.refl _) ?_))
      first
        | (exfalso; omega)
        | (refine ⟨?_, rfl⟩
           unfold mbin
           simp only [Int.zero_sub]
           repeat (first | rw [if_pos (by omega)] | rw [if_neg (by omega)])
           done)
        | (refine ⟨?_, rfl⟩
           unfold mbin
           repeat (first | rw [if_pos (by omega)] | rw [if_neg (by omega)])
           try rfl)
    intro h37_0
    refine SPL_y (y_assign rfl) rfl ?_
    refine SPL_nil ?_
    refine thenP_n ?_
    refine SP_cond_f rfl ?_
    refine SP_skip ?_
    refine inBlockP_n ?_
    refine thenP_n ?_
    refine SP_seq ?_
    refine SP_region ?_
    refine SPL_y (y_move rfl) rfl ?_
    refine SPL_y (y_move rfl) rfl ?_
    refine SPL_y (y_lss rfl rfl) rfl ?_
    refine SPL_one rfl (SP1_call (mm_truth _) Tryz.call167 rfl rfl (by repeat (first | exact Part.nil _ | (apply Part.cons; (first | exact P0 | exact P1 | exact P2 | exact P3 | exact P4 | exact P5 | exact P6 | exact P7 | exact P8 | exact P9 | exact P10 | exact P11 | exact P12 | exact P13 | exact P14 | exact P15 | exact P16 | exact P17 | exact P18 | exact P19 | exact P20 | exact P21 | exact P22 | exact P23)) | (apply Part.flat; simp only [List.cons_append, List.nil_append]) | (apply Part.nilc))) ?_)
    rintro v post H' ⟨rfl, rfl⟩ hH
    try simp only [List.cons_append, List.nil_append] at hH
    subst hH
    refine SPL_y (y_assign rfl) rfl ?_
    refine SPL_y (y_assign rfl) rfl ?_
    refine SPL_nil ?_
    refine thenP_n ?_
    refine SP_ret ?_
    refine bodyP_ret (Res2 rfl rfl rfl) (Part.refl _) ?_
    first
      | (exfalso; omega)
      | (refine ⟨?_, rfl⟩
         unfold mbin
         simp only [Int.zero_sub]
         repeat (first | rw [if_pos (by omega)] | rw [if_neg (by omega)])
         done)
      | (refine ⟨?_, rfl⟩
         unfold mbin
         repeat (first | rw [if_pos (by omega)] | rw [if_neg (by omega)])
         try rfl)
  intro h2_1
  refine SPL_y (y_move rfl) rfl ?_
  refine SPL_gy rfl rfl ?_
  refine SPL_y (y_move rfl) rfl ?_
  refine SPL_gy rfl rfl ?_
  refine SPL_ifn (y_leq rfl rfl) rfl ?_ ?_
  · intro h2_4
    refine SPL_y (y_pick_t rfl rfl) rfl ?_
    refine SPL_y (y_move rfl) rfl ?_
    refine SPL_gn rfl rfl rfl rfl ?_
    refine SPL_gn rfl rfl rfl rfl ?_
    refine SPL_y (y_pick_f rfl rfl) rfl ?_
    refine SPL_nil ?_
    refine thenP_n ?_
    refine SP_cond_f rfl ?_
    refine SP_skip ?_
    refine thenP_n ?_
    refine SP_seq ?_
    refine SP_seq ?_
    refine SP_region ?_
    refine SPL_y (y_move rfl) rfl ?_
    refine SPL_nil ?_
    refine thenP_n ?_
    refine SP_block ?_
    refine SP_seq ?_
    refine SP_region ?_
    refine SPL_if (y_eql rfl rfl) rfl ?_ ?_
    · intro h5_0
      refine SPL_y (y_assign rfl) rfl ?_
      refine SPL_nil ?_
      refine thenP_n ?_
      refine SP_cond_t rfl ?_
      refine SP_seq ?_
      refine SP_region ?_
      refine SPL_y (y_move rfl) rfl ?_
      refine SPL_y (y_move rfl) rfl ?_
      refine SPL_y (y_addw rfl rfl rfl) rfl ?_
      refine SPL_y (y_assign rfl) rfl ?_
      refine SPL_y (y_assign rfl) rfl ?_
      refine SPL_nil ?_
      refine thenP_n ?_
      refine SP_ret ?_
      refine inBlockP_ret (thenP_ret (bodyP_ret (Res2 rfl rfl rfl) (Part.refl _) ?_))
      first
        | (exfalso; omega)
        | (refine ⟨?_, rfl⟩
           unfold mbin
           simp only [Int.zero_sub]
           repeat (first | rw [if_pos (by omega)] | rw [if_neg (by omega)])
           done)
        | (refine ⟨?_, rfl⟩
           unfold mbin
           repeat (first | rw [if_pos (by omega)] | rw [if_neg (by omega)])
           try rfl)
    intro h5_0
    refine SPL_y (y_assign rfl) rfl ?_
    refine SPL_nil ?_
    refine thenP_n ?_
    refine SP_cond_f rfl ?_
    refine SP_seq ?_
    refine SP_region ?_
    refine SPL_if (y_eql rfl rfl) rfl ?_ ?_
    · intro h7_0
      refine SPL_y (y_assign rfl) rfl ?_
      refine SPL_nil ?_
      refine thenP_n ?_
      refine SP_cond_t rfl ?_
      refine SP_seq ?_
      refine SP_region ?_
      refine SPL_y (y_move rfl) rfl ?_
      refine SPL_y (y_move rfl) rfl ?_
      refine SPL_y (y_subw rfl rfl rfl) rfl ?_
      refine SPL_y (y_assign rfl) rfl ?_
      refine SPL_y (y_assign rfl) rfl ?_
      refine SPL_nil ?_
      refine thenP_n ?_
      refine SP_ret ?_
      refine inBlockP_ret (thenP_ret (bodyP_ret (Res2 rfl rfl rfl) (Part.refl _) ?_))
      first
        | (exfalso; omega)
        | (refine ⟨?_, rfl⟩
           unfold mbin
           simp only [Int.zero_sub]
           repeat (first | rw [if_pos (by omega)] | rw [if_neg (by omega)])
           done)
        | (refine ⟨?_, rfl⟩
           unfold mbin
           repeat (first | rw [if_pos (by omega)] | rw [if_neg (by omega)])
           try rfl)
    intro h7_0
    refine SPL_y (y_assign rfl) rfl ?_
    refine SPL_nil ?_
    refine thenP_n ?_
    refine SP_cond_f rfl ?_
    refine SP_seq ?_
    refine SP_region ?_
    refine SPL_if (y_eql rfl rfl) rfl ?_ ?_
    · intro h9_0
      refine SPL_y (y_assign rfl) rfl ?_
      refine SPL_nil ?_
      refine thenP_n ?_
      refine SP_cond_t rfl ?_
      refine SP_seq ?_
      refine SP_region ?_
      refine SPL_y (y_move rfl) rfl ?_
      refine SPL_y (y_move rfl) rfl ?_
      refine SPL_y (y_mulw rfl rfl rfl) rfl ?_
      refine SPL_y (y_assign rfl) rfl ?_
      refine SPL_y (y_assign rfl) rfl ?_
      refine SPL_nil ?_
      refine thenP_n ?_
      refine SP_ret ?_
      refine inBlockP_ret (thenP_ret (bodyP_ret (Res2 rfl rfl rfl) (Part.refl _) ?_))
      first
        | (exfalso; omega)
        | (refine ⟨?_, rfl⟩
           unfold mbin
           simp only [Int.zero_sub]
           repeat (first | rw [if_pos (by omega)] | rw [if_neg (by omega)])
           done)
        | (refine ⟨?_, rfl⟩
           unfold mbin
           repeat (first | rw [if_pos (by omega)] | rw [if_neg (by omega)])
           try rfl)
    intro h9_0
    refine SPL_y (y_assign rfl) rfl ?_
    refine SPL_nil ?_
    refine thenP_n ?_
    refine SP_cond_f rfl ?_
    refine SP_seq ?_
    refine SP_region ?_
    refine SPL_if (y_eql rfl rfl) rfl ?_ ?_
    · intro h11_0
      refine SPL_y (y_assign rfl) rfl ?_
      refine SPL_nil ?_
      refine thenP_n ?_
      refine SP_cond_t rfl ?_
      refine SP_seq ?_
      refine SP_seq ?_
      refine SP_region ?_
      refine SPL_y (y_move rfl) rfl ?_
      refine SPL_if (y_eql rfl rfl) rfl ?_ ?_
      · intro h12_1
        refine SPL_nil ?_
        refine thenP_n ?_
        refine SP_cond_t rfl ?_
        refine SP_seq ?_
        refine SP_region ?_
        refine SPL_y (y_move rfl) rfl ?_
        refine SPL_y (y_neg rfl rfl) rfl ?_
        refine SPL_y (y_assign rfl) rfl ?_
        refine SPL_y (y_assign rfl) rfl ?_
        refine SPL_nil ?_
        refine thenP_n ?_
        refine SP_ret ?_
        refine thenP_ret (inBlockP_ret (thenP_ret (bodyP_ret (Res2 rfl rfl rfl) (Part.refl _) ?_)))
        first
          | (exfalso; omega)
          | (refine ⟨?_, rfl⟩
             unfold mbin
             simp only [Int.zero_sub]
             repeat (first | rw [if_pos (by omega)] | rw [if_neg (by omega)])
             done)
          | (refine ⟨?_, rfl⟩
             unfold mbin
             repeat (first | rw [if_pos (by omega)] | rw [if_neg (by omega)])
             try rfl)
      intro h12_1
      refine SPL_nil ?_
      refine thenP_n ?_
      refine SP_cond_f rfl ?_
      refine SP_skip ?_
      refine thenP_n ?_
      refine SP_seq ?_
      refine SP_region ?_
      refine SPL_y (y_move rfl) rfl ?_
      refine SPL_y (y_move rfl) rfl ?_
      refine SPL_y (y_quo rfl rfl (by omega) rfl) rfl ?_
      refine SPL_y (y_assign rfl) rfl ?_
      refine SPL_y (y_assign rfl) rfl ?_
      refine SPL_nil ?_
      refine thenP_n ?_
      refine SP_ret ?_
      refine inBlockP_ret (thenP_ret (bodyP_ret (Res2 rfl rfl rfl) (Part.refl _) ?_))
      first
        | (exfalso; omega)
        | (refine ⟨?_, rfl⟩
           unfold mbin
           simp only [Int.zero_sub]
           repeat (first | rw [if_pos (by omega)] | rw [if_neg (by omega)])
           done)
        | (refine ⟨?_, rfl⟩
           unfold mbin
           repeat (first | rw [if_pos (by omega)] | rw [if_neg (by omega)])
           try rfl)
    intro h11_0
    refine SPL_y (y_assign rfl) rfl ?_
    refine SPL_nil ?_
    refine thenP_n ?_
    refine SP_cond_f rfl ?_
    refine SP_seq ?_
    refine SP_region ?_
    refine SPL_if (y_eql rfl rfl) rfl ?_ ?_
    · intro h15_0
      refine SPL_y (y_assign rfl) rfl ?_
      refine SPL_nil ?_
      refine thenP_n ?_
      refine SP_cond_t rfl ?_
      refine SP_seq ?_
      refine SP_region ?_
      refine SPL_y (y_move rfl) rfl ?_
      refine SPL_y (y_move rfl) rfl ?_
      refine SPL_y (y_quo rfl rfl (hub (by omega)) rfl) rfl ?_
      refine SPL_y (y_conv Tryz.underlying142 Tryz.underlying3 rfl rfl) rfl ?_
      refine SPL_y (y_assign rfl) rfl ?_
      refine SPL_y (y_assign rfl) rfl ?_
      refine SPL_nil ?_
      refine thenP_n ?_
      refine SP_ret ?_
      refine inBlockP_ret (thenP_ret (bodyP_ret (Res2 rfl rfl rfl) (Part.refl _) ?_))
      first
        | (exfalso; omega)
        | (refine ⟨?_, rfl⟩
           unfold mbin
           simp only [Int.zero_sub]
           repeat (first | rw [if_pos (by omega)] | rw [if_neg (by omega)])
           done)
        | (refine ⟨?_, rfl⟩
           unfold mbin
           repeat (first | rw [if_pos (by omega)] | rw [if_neg (by omega)])
           try rfl)
    intro h15_0
    refine SPL_y (y_assign rfl) rfl ?_
    refine SPL_nil ?_
    refine thenP_n ?_
    refine SP_cond_f rfl ?_
    refine SP_seq ?_
    refine SP_region ?_
    refine SPL_if (y_eql rfl rfl) rfl ?_ ?_
    · intro h17_0
      refine SPL_y (y_assign rfl) rfl ?_
      refine SPL_nil ?_
      refine thenP_n ?_
      refine SP_cond_t rfl ?_
      refine SP_seq ?_
      refine SP_seq ?_
      refine SP_region ?_
      refine SPL_y (y_move rfl) rfl ?_
      refine SPL_if (y_eql rfl rfl) rfl ?_ ?_
      · intro h18_1
        refine SPL_nil ?_
        refine thenP_n ?_
        refine SP_cond_t rfl ?_
        refine SP_seq ?_
        refine SP_region ?_
        refine SPL_y (y_assign rfl) rfl ?_
        refine SPL_y (y_assign rfl) rfl ?_
        refine SPL_nil ?_
        refine thenP_n ?_
        refine SP_ret ?_
        refine thenP_ret (inBlockP_ret (thenP_ret (bodyP_ret (Res2 rfl rfl rfl) (Part.refl _) ?_)))
        first
          | (exfalso; omega)
          | (refine ⟨?_, rfl⟩
             unfold mbin
             simp only [Int.zero_sub]
             repeat (first | rw [if_pos (by omega)] | rw [if_neg (by omega)])
             done)
          | (refine ⟨?_, rfl⟩
             unfold mbin
             repeat (first | rw [if_pos (by omega)] | rw [if_neg (by omega)])
             try rfl)
      intro h18_1
      refine SPL_nil ?_
      refine thenP_n ?_
      refine SP_cond_f rfl ?_
      refine SP_skip ?_
      refine thenP_n ?_
      refine SP_seq ?_
      refine SP_region ?_
      refine SPL_y (y_move rfl) rfl ?_
      refine SPL_y (y_move rfl) rfl ?_
      refine SPL_y (y_rem rfl rfl (by omega) rfl) rfl ?_
      refine SPL_y (y_assign rfl) rfl ?_
      refine SPL_y (y_assign rfl) rfl ?_
      refine SPL_nil ?_
      refine thenP_n ?_
      refine SP_ret ?_
      refine inBlockP_ret (thenP_ret (bodyP_ret (Res2 rfl rfl rfl) (Part.refl _) ?_))
      first
        | (exfalso; omega)
        | (refine ⟨?_, rfl⟩
           unfold mbin
           simp only [Int.zero_sub]
           repeat (first | rw [if_pos (by omega)] | rw [if_neg (by omega)])
           done)
        | (refine ⟨?_, rfl⟩
           unfold mbin
           repeat (first | rw [if_pos (by omega)] | rw [if_neg (by omega)])
           try rfl)
    intro h17_0
    refine SPL_y (y_assign rfl) rfl ?_
    refine SPL_nil ?_
    refine thenP_n ?_
    refine SP_cond_f rfl ?_
    refine SP_seq ?_
    refine SP_region ?_
    refine SPL_if (y_eql rfl rfl) rfl ?_ ?_
    · intro h21_0
      refine SPL_y (y_assign rfl) rfl ?_
      refine SPL_nil ?_
      refine thenP_n ?_
      refine SP_cond_t rfl ?_
      refine SP_seq ?_
      refine SP_region ?_
      refine SPL_y (y_move rfl) rfl ?_
      refine SPL_y (y_move rfl) rfl ?_
      refine SPL_y (y_rem rfl rfl (hub (by omega)) rfl) rfl ?_
      refine SPL_y (y_conv Tryz.underlying142 Tryz.underlying3 rfl rfl) rfl ?_
      refine SPL_y (y_assign rfl) rfl ?_
      refine SPL_y (y_assign rfl) rfl ?_
      refine SPL_nil ?_
      refine thenP_n ?_
      refine SP_ret ?_
      refine inBlockP_ret (thenP_ret (bodyP_ret (Res2 rfl rfl rfl) (Part.refl _) ?_))
      first
        | (exfalso; omega)
        | (refine ⟨?_, rfl⟩
           unfold mbin
           simp only [Int.zero_sub]
           repeat (first | rw [if_pos (by omega)] | rw [if_neg (by omega)])
           done)
        | (refine ⟨?_, rfl⟩
           unfold mbin
           repeat (first | rw [if_pos (by omega)] | rw [if_neg (by omega)])
           try rfl)
    intro h21_0
    refine SPL_y (y_assign rfl) rfl ?_
    refine SPL_nil ?_
    refine thenP_n ?_
    refine SP_cond_f rfl ?_
    refine SP_seq ?_
    refine SP_region ?_
    refine SPL_if (y_eql rfl rfl) rfl ?_ ?_
    · intro h23_0
      refine SPL_y (y_assign rfl) rfl ?_
      refine SPL_nil ?_
      refine thenP_n ?_
      refine SP_cond_t rfl ?_
      refine SP_seq ?_
      refine SP_region ?_
      refine SPL_y (y_move rfl) rfl ?_
      refine SPL_y (y_move rfl) rfl ?_
      refine SPL_y (y_and rfl rfl rfl) rfl ?_
      refine SPL_y (y_assign rfl) rfl ?_
      refine SPL_y (y_assign rfl) rfl ?_
      refine SPL_nil ?_
      refine thenP_n ?_
      refine SP_ret ?_
      refine inBlockP_ret (thenP_ret (bodyP_ret (Res2 rfl rfl rfl) (Part.refl _) ?_))
      first
        | (exfalso; omega)
        | (refine ⟨?_, rfl⟩
           unfold mbin
           simp only [Int.zero_sub]
           repeat (first | rw [if_pos (by omega)] | rw [if_neg (by omega)])
           done)
        | (refine ⟨?_, rfl⟩
           unfold mbin
           repeat (first | rw [if_pos (by omega)] | rw [if_neg (by omega)])
           try rfl)
    intro h23_0
    refine SPL_y (y_assign rfl) rfl ?_
    refine SPL_nil ?_
    refine thenP_n ?_
    refine SP_cond_f rfl ?_
    refine SP_seq ?_
    refine SP_region ?_
    refine SPL_if (y_eql rfl rfl) rfl ?_ ?_
    · intro h25_0
      refine SPL_y (y_assign rfl) rfl ?_
      refine SPL_nil ?_
      refine thenP_n ?_
      refine SP_cond_t rfl ?_
      refine SP_seq ?_
      refine SP_region ?_
      refine SPL_y (y_move rfl) rfl ?_
      refine SPL_y (y_move rfl) rfl ?_
      refine SPL_y (y_or rfl rfl rfl) rfl ?_
      refine SPL_y (y_assign rfl) rfl ?_
      refine SPL_y (y_assign rfl) rfl ?_
      refine SPL_nil ?_
      refine thenP_n ?_
      refine SP_ret ?_
      refine inBlockP_ret (thenP_ret (bodyP_ret (Res2 rfl rfl rfl) (Part.refl _) ?_))
      first
        | (exfalso; omega)
        | (refine ⟨?_, rfl⟩
           unfold mbin
           simp only [Int.zero_sub]
           repeat (first | rw [if_pos (by omega)] | rw [if_neg (by omega)])
           done)
        | (refine ⟨?_, rfl⟩
           unfold mbin
           repeat (first | rw [if_pos (by omega)] | rw [if_neg (by omega)])
           try rfl)
    intro h25_0
    refine SPL_y (y_assign rfl) rfl ?_
    refine SPL_nil ?_
    refine thenP_n ?_
    refine SP_cond_f rfl ?_
    refine SP_seq ?_
    refine SP_region ?_
    refine SPL_if (y_eql rfl rfl) rfl ?_ ?_
    · intro h27_0
      refine SPL_y (y_assign rfl) rfl ?_
      refine SPL_nil ?_
      refine thenP_n ?_
      refine SP_cond_t rfl ?_
      refine SP_seq ?_
      refine SP_region ?_
      refine SPL_y (y_move rfl) rfl ?_
      refine SPL_y (y_move rfl) rfl ?_
      refine SPL_y (y_xor rfl rfl rfl) rfl ?_
      refine SPL_y (y_assign rfl) rfl ?_
      refine SPL_y (y_assign rfl) rfl ?_
      refine SPL_nil ?_
      refine thenP_n ?_
      refine SP_ret ?_
      refine inBlockP_ret (thenP_ret (bodyP_ret (Res2 rfl rfl rfl) (Part.refl _) ?_))
      first
        | (exfalso; omega)
        | (refine ⟨?_, rfl⟩
           unfold mbin
           simp only [Int.zero_sub]
           repeat (first | rw [if_pos (by omega)] | rw [if_neg (by omega)])
           done)
        | (refine ⟨?_, rfl⟩
           unfold mbin
           repeat (first | rw [if_pos (by omega)] | rw [if_neg (by omega)])
           try rfl)
    intro h27_0
    refine SPL_y (y_assign rfl) rfl ?_
    refine SPL_nil ?_
    refine thenP_n ?_
    refine SP_cond_f rfl ?_
    refine SP_seq ?_
    refine SP_region ?_
    refine SPL_if (y_eql rfl rfl) rfl ?_ ?_
    · intro h29_0
      refine SPL_y (y_assign rfl) rfl ?_
      refine SPL_nil ?_
      refine thenP_n ?_
      refine SP_cond_t rfl ?_
      refine SP_seq ?_
      refine SP_region ?_
      refine SPL_y (y_move rfl) rfl ?_
      refine SPL_y (y_move rfl) rfl ?_
      refine SPL_y (y_shl rfl rfl hsh rfl) rfl ?_
      refine SPL_y (y_assign rfl) rfl ?_
      refine SPL_y (y_assign rfl) rfl ?_
      refine SPL_nil ?_
      refine thenP_n ?_
      refine SP_ret ?_
      refine inBlockP_ret (thenP_ret (bodyP_ret (Res2 rfl rfl rfl) (Part.refl _) ?_))
      first
        | (exfalso; omega)
        | (refine ⟨?_, rfl⟩
           unfold mbin
           simp only [Int.zero_sub]
           repeat (first | rw [if_pos (by omega)] | rw [if_neg (by omega)])
           done)
        | (refine ⟨?_, rfl⟩
           unfold mbin
           repeat (first | rw [if_pos (by omega)] | rw [if_neg (by omega)])
           try rfl)
    intro h29_0
    refine SPL_y (y_assign rfl) rfl ?_
    refine SPL_nil ?_
    refine thenP_n ?_
    refine SP_cond_f rfl ?_
    refine SP_seq ?_
    refine SP_region ?_
    refine SPL_if (y_eql rfl rfl) rfl ?_ ?_
    · intro h31_0
      refine SPL_y (y_assign rfl) rfl ?_
      refine SPL_nil ?_
      refine thenP_n ?_
      refine SP_cond_t rfl ?_
      refine SP_seq ?_
      refine SP_region ?_
      refine SPL_y (y_move rfl) rfl ?_
      refine SPL_y (y_move rfl) rfl ?_
      refine SPL_y (y_shr rfl rfl hsh rfl) rfl ?_
      refine SPL_y (y_assign rfl) rfl ?_
      refine SPL_y (y_assign rfl) rfl ?_
      refine SPL_nil ?_
      refine thenP_n ?_
      refine SP_ret ?_
      refine inBlockP_ret (thenP_ret (bodyP_ret (Res2 rfl rfl rfl) (Part.refl _) ?_))
      first
        | (exfalso; omega)
        | (refine ⟨?_, rfl⟩
           unfold mbin
           simp only [Int.zero_sub]
           repeat (first | rw [if_pos (by omega)] | rw [if_neg (by omega)])
           done)
        | (refine ⟨?_, rfl⟩
           unfold mbin
           repeat (first | rw [if_pos (by omega)] | rw [if_neg (by omega)])
           try rfl)
    intro h31_0
    refine SPL_y (y_assign rfl) rfl ?_
    refine SPL_nil ?_
    refine thenP_n ?_
    refine SP_cond_f rfl ?_
    refine SP_seq ?_
    refine SP_region ?_
    refine SPL_if (y_eql rfl rfl) rfl ?_ ?_
    · intro h33_0
      refine SPL_y (y_assign rfl) rfl ?_
      refine SPL_nil ?_
      refine thenP_n ?_
      refine SP_cond_t rfl ?_
      refine SP_seq ?_
      refine SP_region ?_
      refine SPL_y (y_move rfl) rfl ?_
      refine SPL_y (y_move rfl) rfl ?_
      refine SPL_y (y_shr rfl rfl hsh rfl) rfl ?_
      refine SPL_y (y_conv Tryz.underlying142 Tryz.underlying3 rfl rfl) rfl ?_
      refine SPL_y (y_assign rfl) rfl ?_
      refine SPL_y (y_assign rfl) rfl ?_
      refine SPL_nil ?_
      refine thenP_n ?_
      refine SP_ret ?_
      refine inBlockP_ret (thenP_ret (bodyP_ret (Res2 rfl rfl rfl) (Part.refl _) ?_))
      first
        | (exfalso; omega)
        | (refine ⟨?_, rfl⟩
           unfold mbin
           simp only [Int.zero_sub]
           repeat (first | rw [if_pos (by omega)] | rw [if_neg (by omega)])
           done)
        | (refine ⟨?_, rfl⟩
           unfold mbin
           repeat (first | rw [if_pos (by omega)] | rw [if_neg (by omega)])
           try rfl)
    intro h33_0
    refine SPL_y (y_assign rfl) rfl ?_
    refine SPL_nil ?_
    refine thenP_n ?_
    refine SP_cond_f rfl ?_
    refine SP_seq ?_
    refine SP_region ?_
    refine SPL_if (y_eql rfl rfl) rfl ?_ ?_
    · intro h35_0
      refine SPL_y (y_assign rfl) rfl ?_
      refine SPL_nil ?_
      refine thenP_n ?_
      refine SP_cond_t rfl ?_
      refine SP_seq ?_
      refine SP_region ?_
      refine SPL_y (y_move rfl) rfl ?_
      refine SPL_y (y_move rfl) rfl ?_
      refine SPL_y (y_eql rfl rfl) rfl ?_
      refine SPL_one rfl (SP1_call (mm_truth _) Tryz.call167 rfl rfl (by repeat (first | exact Part.nil _ | (apply Part.cons; (first | exact P0 | exact P1 | exact P2 | exact P3 | exact P4 | exact P5 | exact P6 | exact P7 | exact P8 | exact P9 | exact P10 | exact P11 | exact P12 | exact P13 | exact P14 | exact P15 | exact P16 | exact P17 | exact P18 | exact P19 | exact P20 | exact P21 | exact P22 | exact P23)) | (apply Part.flat; simp only [List.cons_append, List.nil_append]) | (apply Part.nilc))) ?_)
      rintro v post H' ⟨rfl, rfl⟩ hH
      try simp only [List.cons_append, List.nil_append] at hH
      subst hH
      refine SPL_y (y_assign rfl) rfl ?_
      refine SPL_y (y_assign rfl) rfl ?_
      refine SPL_nil ?_
      refine thenP_n ?_
      refine SP_ret ?_
      refine inBlockP_ret (thenP_ret (bodyP_ret (Res2 rfl rfl rfl) (Part.refl _) ?_))
      first
        | (exfalso; omega)
        | (refine ⟨?_, rfl⟩
           unfold mbin
           simp only [Int.zero_sub]
           repeat (first | rw [if_pos (by omega)] | rw [if_neg (by omega)])
           done)
        | (refine ⟨?_, rfl⟩
           unfold mbin
           repeat (first | rw [if_pos (by omega)] | rw [if_neg (by omega)])
           try rfl)
    intro h35_0
    refine SPL_y (y_assign rfl) rfl ?_
    refine SPL_nil ?_
    refine thenP_n ?_
    refine SP_cond_f rfl ?_
    refine SP_seq ?_
    refine SP_region ?_
    refine SPL_if (y_eql rfl rfl) rfl ?_ ?_
    · intro h37_0
      refine SPL_y (y_assign rfl) rfl ?_
      refine SPL_nil ?_
      refine thenP_n ?_
      refine SP_cond_t rfl ?_
      refine SP_seq ?_
      refine SP_region ?_
      refine SPL_y (y_move rfl) rfl ?_
      refine SPL_y (y_move rfl) rfl ?_
      refine SPL_y (y_lss rfl rfl) rfl ?_
      refine SPL_one rfl (SP1_call (mm_truth _) Tryz.call167 rfl rfl (by repeat (first | exact Part.nil _ | (apply Part.cons; (first | exact P0 | exact P1 | exact P2 | exact P3 | exact P4 | exact P5 | exact P6 | exact P7 | exact P8 | exact P9 | exact P10 | exact P11 | exact P12 | exact P13 | exact P14 | exact P15 | exact P16 | exact P17 | exact P18 | exact P19 | exact P20 | exact P21 | exact P22 | exact P23)) | (apply Part.flat; simp only [List.cons_append, List.nil_append]) | (apply Part.nilc))) ?_)
      rintro v post H' ⟨rfl, rfl⟩ hH
      try simp only [List.cons_append, List.nil_append] at hH
      subst hH
      refine SPL_y (y_assign rfl) rfl ?_
      refine SPL_y (y_assign rfl) rfl ?_
      refine SPL_nil ?_
      refine thenP_n ?_
      refine SP_ret ?_
      refine inBlockP_ret (thenP_ret (bodyP_ret (Res2 rfl rfl rfl) (Part.refl _) ?_))
      first
        | (exfalso; omega)
        | (refine ⟨?_, rfl⟩
           unfold mbin
           simp only [Int.zero_sub]
           repeat (first | rw [if_pos (by omega)] | rw [if_neg (by omega)])
           done)
        | (refine ⟨?_, rfl⟩
           unfold mbin
           repeat (first | rw [if_pos (by omega)] | rw [if_neg (by omega)])
           try rfl)
    intro h37_0
    refine SPL_y (y_assign rfl) rfl ?_
    refine SPL_nil ?_
    refine thenP_n ?_
    refine SP_cond_f rfl ?_
    refine SP_skip ?_
    refine inBlockP_n ?_
    refine thenP_n ?_
    refine SP_seq ?_
    refine SP_region ?_
    refine SPL_y (y_move rfl) rfl ?_
    refine SPL_y (y_move rfl) rfl ?_
    refine SPL_y (y_lss rfl rfl) rfl ?_
    refine SPL_one rfl (SP1_call (mm_truth _) Tryz.call167 rfl rfl (by repeat (first | exact Part.nil _ | (apply Part.cons; (first | exact P0 | exact P1 | exact P2 | exact P3 | exact P4 | exact P5 | exact P6 | exact P7 | exact P8 | exact P9 | exact P10 | exact P11 | exact P12 | exact P13 | exact P14 | exact P15 | exact P16 | exact P17 | exact P18 | exact P19 | exact P20 | exact P21 | exact P22 | exact P23)) | (apply Part.flat; simp only [List.cons_append, List.nil_append]) | (apply Part.nilc))) ?_)
    rintro v post H' ⟨rfl, rfl⟩ hH
    try simp only [List.cons_append, List.nil_append] at hH
    subst hH
    refine SPL_y (y_assign rfl) rfl ?_
    refine SPL_y (y_assign rfl) rfl ?_
    refine SPL_nil ?_
    refine thenP_n ?_
    refine SP_ret ?_
    refine bodyP_ret (Res2 rfl rfl rfl) (Part.refl _) ?_
    first
      | (exfalso; omega)
      | (refine ⟨?_, rfl⟩
         unfold mbin
         simp only [Int.zero_sub]
         repeat (first | rw [if_pos (by omega)] | rw [if_neg (by omega)])
         done)
      | (refine ⟨?_, rfl⟩
         unfold mbin
         repeat (first | rw [if_pos (by omega)] | rw [if_neg (by omega)])
         try rfl)
  intro h2_4
  refine SPL_y (y_pick_t rfl rfl) rfl ?_
  refine SPL_y (y_move rfl) rfl ?_
  refine SPL_gy rfl rfl ?_
  refine SPL_y (y_move rfl) rfl ?_
  refine SPL_gy rfl rfl ?_
  refine SPL_if (y_eql rfl rfl) rfl ?_ ?_
  · intro h2_8
    refine SPL_y (y_pick_t rfl rfl) rfl ?_
    refine SPL_nil ?_
    refine thenP_n ?_
    refine SP_cond_t rfl ?_
    refine SP_seq ?_
    refine SP_region ?_
    refine SPL_y (y_assign rfl) rfl ?_
    refine SPL_y (y_assign rfl) rfl ?_
    refine SPL_nil ?_
    refine thenP_n ?_
    refine SP_ret ?_
    refine thenP_ret (bodyP_ret (Res2 rfl rfl rfl) (Part.refl _) ?_)
    first
      | (exfalso; omega)
      | (refine ⟨?_, rfl⟩
         unfold mbin
         simp only [Int.zero_sub]
         repeat (first | rw [if_pos (by omega)] | rw [if_neg (by omega)])
         done)
      | (refine ⟨?_, rfl⟩
         unfold mbin
         repeat (first | rw [if_pos (by omega)] | rw [if_neg (by omega)])
         try rfl)
  intro h2_8
  refine SPL_y (y_pick_t rfl rfl) rfl ?_
  refine SPL_nil ?_
  refine thenP_n ?_
  refine SP_cond_f rfl ?_
  refine SP_skip ?_
  refine thenP_n ?_
  refine SP_seq ?_
  refine SP_seq ?_
  refine SP_region ?_
  refine SPL_y (y_move rfl) rfl ?_
  refine SPL_nil ?_
  refine thenP_n ?_
  refine SP_block ?_
  refine SP_seq ?_
  refine SP_region ?_
  refine SPL_if (y_eql rfl rfl) rfl ?_ ?_
  · intro h5_0
    refine SPL_y (y_assign rfl) rfl ?_
    refine SPL_nil ?_
    refine thenP_n ?_
    refine SP_cond_t rfl ?_
    refine SP_seq ?_
    refine SP_region ?_
    refine SPL_y (y_move rfl) rfl ?_
    refine SPL_y (y_move rfl) rfl ?_
    refine SPL_y (y_addw rfl rfl rfl) rfl ?_
    refine SPL_y (y_assign rfl) rfl ?_
    refine SPL_y (y_assign rfl) rfl ?_
    refine SPL_nil ?_
    refine thenP_n ?_
    refine SP_ret ?_
    refine inBlockP_ret (thenP_ret (bodyP_ret (Res2 rfl rfl rfl) (Part.refl _) ?_))
    first
      | (exfalso; omega)
      | (refine ⟨?_, rfl⟩
         unfold mbin
         simp only [Int.zero_sub]
         repeat (first | rw [if_pos (by omega)] | rw [if_neg (by omega)])
         done)
      | (refine ⟨?_, rfl⟩
         unfold mbin
         repeat (first | rw [if_pos (by omega)] | rw [if_neg (by omega)])
         try rfl)
  intro h5_0
  refine SPL_y (y_assign rfl) rfl ?_
  refine SPL_nil ?_
  refine thenP_n ?_
  refine SP_cond_f rfl ?_
  refine SP_seq ?_
  refine SP_region ?_
  refine SPL_if (y_eql rfl rfl) rfl ?_ ?_
  · intro h7_0
    refine SPL_y (y_assign rfl) rfl ?_
    refine SPL_nil ?_
    refine thenP_n ?_
    refine SP_cond_t rfl ?_
    refine SP_seq ?_
    refine SP_region ?_
    refine SPL_y (y_move rfl) rfl ?_
    refine SPL_y (y_move rfl) rfl ?_
    refine SPL_y (y_subw rfl rfl rfl) rfl ?_
    refine SPL_y (y_assign rfl) rfl ?_
    refine SPL_y (y_assign rfl) rfl ?_
    refine SPL_nil ?_
    refine thenP_n ?_
    refine SP_ret ?_
    refine inBlockP_ret (thenP_ret (bodyP_ret (Res2 rfl rfl rfl) (Part.refl _) ?_))
    first
      | (exfalso; omega)
      | (refine ⟨?_, rfl⟩
         unfold mbin
         simp only [Int.zero_sub]
         repeat (first | rw [if_pos (by omega)] | rw [if_neg (by omega)])
         done)
      | (refine ⟨?_, rfl⟩
         unfold mbin
         repeat (first | rw [if_pos (by omega)] | rw [if_neg (by omega)])
         try rfl)
  intro h7_0
  refine SPL_y (y_assign rfl) rfl ?_
  refine SPL_nil ?_
  refine thenP_n ?_
  refine SP_cond_f rfl ?_
  refine SP_seq ?_
  refine SP_region ?_
  refine SPL_if (y_eql rfl rfl) rfl ?_ ?_
  · intro h9_0
    refine SPL_y (y_assign rfl) rfl ?_
    refine SPL_nil ?_
    refine thenP_n ?_
    refine SP_cond_t rfl ?_
    refine SP_seq ?_
    refine SP_region ?_
    refine SPL_y (y_move rfl) rfl ?_
    refine SPL_y (y_move rfl) rfl ?_
    refine SPL_y (y_mulw rfl rfl rfl) rfl ?_
    refine SPL_y (y_assign rfl) rfl ?_
    refine SPL_y (y_assign rfl) rfl ?_
    refine SPL_nil ?_
    refine thenP_n ?_
    refine SP_ret ?_
    refine inBlockP_ret (thenP_ret (bodyP_ret (Res2 rfl rfl rfl) (Part.refl _) ?_))
    first
      | (exfalso; omega)
      | (refine ⟨?_, rfl⟩
         unfold mbin
         simp only [Int.zero_sub]
         repeat (first | rw [if_pos (by omega)] | rw [if_neg (by omega)])
         done)
      | (refine ⟨?_, rfl⟩
         unfold mbin
         repeat (first | rw [if_pos (by omega)] | rw [if_neg (by omega)])
         try rfl)
  intro h9_0
  refine SPL_y (y_assign rfl) rfl ?_
  refine SPL_nil ?_
  refine thenP_n ?_
  refine SP_cond_f rfl ?_
  refine SP_seq ?_
  refine SP_region ?_
  refine SPL_if (y_eql rfl rfl) rfl ?_ ?_
  · intro h11_0
    refine SPL_y (y_assign rfl) rfl ?_
    refine SPL_nil ?_
    refine thenP_n ?_
    refine SP_cond_t rfl ?_
    refine SP_seq ?_
    refine SP_seq ?_
    refine SP_region ?_
    refine SPL_y (y_move rfl) rfl ?_
    refine SPL_if (y_eql rfl rfl) rfl ?_ ?_
    · intro h12_1
      refine SPL_nil ?_
      refine thenP_n ?_
      refine SP_cond_t rfl ?_
      refine SP_seq ?_
      refine SP_region ?_
      refine SPL_y (y_move rfl) rfl ?_
      refine SPL_y (y_neg rfl rfl) rfl ?_
      refine SPL_y (y_assign rfl) rfl ?_
      refine SPL_y (y_assign rfl) rfl ?_
      refine SPL_nil ?_
      refine thenP_n ?_
      refine SP_ret ?_
      refine thenP_ret (inBlockP_ret (thenP_ret (bodyP_ret (Res2 rfl rfl rfl) (Part.refl _) ?_)))
      first
        | (exfalso; omega)
        | (refine ⟨?_, rfl⟩
           unfold mbin
           simp only [Int.zero_sub]
           repeat (first | rw [if_pos (by omega)] | rw [if_neg (by omega)])
           done)
        | (refine ⟨?_, rfl⟩
           unfold mbin
           repeat (first | rw [if_pos (by omega)] | rw [if_neg (by omega)])
           try rfl)
    intro h12_1
    refine SPL_nil ?_
    refine thenP_n ?_
    refine SP_cond_f rfl ?_
    refine SP_skip ?_
    refine thenP_n ?_
    refine SP_seq ?_
    refine SP_region ?_
    refine SPL_y (y_move rfl) rfl ?_
    refine SPL_y (y_move rfl) rfl ?_
    refine SPL_y (y_quo rfl rfl (by omega) rfl) rfl ?_
    refine SPL_y (y_assign rfl) rfl ?_
    refine SPL_y (y_assign rfl) rfl ?_
    refine SPL_nil ?_
    refine thenP_n ?_
    refine SP_ret ?_
    refine inBlockP_ret (thenP_ret (bodyP_ret (Res2 rfl rfl rfl) (Part.refl _) ?_))
    first
      | (exfalso; omega)
      | (refine ⟨?_, rfl⟩
         unfold mbin
         simp only [Int.zero_sub]
         repeat (first | rw [if_pos (by omega)] | rw [if_neg (by omega)])
         done)
      | (refine ⟨?_, rfl⟩
         unfold mbin
         repeat (first | rw [if_pos (by omega)] | rw [if_neg (by omega)])
         try rfl)
  intro h11_0
  refine SPL_y (y_assign rfl) rfl ?_
  refine SPL_nil ?_
  refine thenP_n ?_
  refine SP_cond_f rfl ?_
  refine SP_seq ?_
  refine SP_region ?_
  refine SPL_if (y_eql rfl rfl) rfl ?_ ?_
  · intro h15_0
    refine SPL_y (y_assign rfl) rfl ?_
    refine SPL_nil ?_
    refine thenP_n ?_
    refine SP_cond_t rfl ?_
    refine SP_seq ?_
    refine SP_region ?_
    refine SPL_y (y_move rfl) rfl ?_
    refine SPL_y (y_move rfl) rfl ?_
    refine SPL_y (y_quo rfl rfl (hub (by omega)) rfl) rfl ?_
    refine SPL_y (y_conv Tryz.underlying142 Tryz.underlying3 rfl rfl) rfl ?_
    refine SPL_y (y_assign rfl) rfl ?_
    refine SPL_y (y_assign rfl) rfl ?_
    refine SPL_nil ?_
    refine thenP_n ?_
    refine SP_ret ?_
    refine inBlockP_ret (thenP_ret (bodyP_ret (Res2 rfl rfl rfl) (Part.refl _) ?_))
    first
      | (exfalso; omega)
      | (refine ⟨?_, rfl⟩
         unfold mbin
         simp only [Int.zero_sub]
         repeat (first | rw [if_pos (by omega)] | rw [if_neg (by omega)])
         done)
      | (refine ⟨?_, rfl⟩
         unfold mbin
         repeat (first | rw [if_pos (by omega)] | rw [if_neg (by omega)])
         try rfl)
  intro h15_0
  refine SPL_y (y_assign rfl) rfl ?_
  refine SPL_nil ?_
  refine thenP_n ?_
  refine SP_cond_f rfl ?_
  refine SP_seq ?_
  refine SP_region ?_
  refine SPL_if (y_eql rfl rfl) rfl ?_ ?_
  · intro h17_0
    refine SPL_y (y_assign rfl) rfl ?_
    refine SPL_nil ?_
    refine thenP_n ?_
    refine SP_cond_t rfl ?_
    refine SP_seq ?_
    refine SP_seq ?_
    refine SP_region ?_
    refine SPL_y (y_move rfl) rfl ?_
    refine SPL_if (y_eql rfl rfl) rfl ?_ ?_
    · intro h18_1
      refine SPL_nil ?_
      refine thenP_n ?_
      refine SP_cond_t rfl ?_
      refine SP_seq ?_
      refine SP_region ?_
      refine SPL_y (y_assign rfl) rfl ?_
      refine SPL_y (y_assign rfl) rfl ?_
      refine SPL_nil ?_
      refine thenP_n ?_
      refine SP_ret ?_
      refine thenP_ret (inBlockP_ret (thenP_ret (bodyP_ret (Res2 rfl rfl rfl) (Part.refl _) ?_)))
      first
        | (exfalso; omega)
        | (refine ⟨?_, rfl⟩
           unfold mbin
           simp only [Int.zero_sub]
           repeat (first | rw [if_pos (by omega)] | rw [if_neg (by omega)])
           done)
        | (refine ⟨?_, rfl⟩
           unfold mbin
           repeat (first | rw [if_pos (by omega)] | rw [if_neg (by omega)])
           try rfl)
    intro h18_1
    refine SPL_nil ?_
    refine thenP_n ?_
    refine SP_cond_f rfl ?_
    refine SP_skip ?_
    refine thenP_n ?_
    refine SP_seq ?_
    refine SP_region ?_
    refine SPL_y (y_move rfl) rfl ?_
    refine SPL_y (y_move rfl) rfl ?_
    refine SPL_y (y_rem rfl rfl (by omega) rfl) rfl ?_
    refine SPL_y (y_assign rfl) rfl ?_
    refine SPL_y (y_assign rfl) rfl ?_
    refine SPL_nil ?_
    refine thenP_n ?_
    refine SP_ret ?_
    refine inBlockP_ret (thenP_ret (bodyP_ret (Res2 rfl rfl rfl) (Part.refl _) ?_))
    first
      | (exfalso; omega)
      | (refine ⟨?_, rfl⟩
         unfold mbin
         simp only [Int.zero_sub]
         repeat (first | rw [if_pos (by omega)] | rw [if_neg (by omega)])
         done)
      | (refine ⟨?_, rfl⟩
         unfold mbin
         repeat (first | rw [if_pos (by omega)] | rw [if_neg (by omega)])
         try rfl)
  intro h17_0
  refine SPL_y (y_assign rfl) rfl ?_
  refine SPL_nil ?_
  refine thenP_n ?_
  refine SP_cond_f rfl ?_
  refine SP_seq ?_
  refine SP_region ?_
  refine SPL_if (y_eql rfl rfl) rfl ?_ ?_
  · intro h21_0
    refine SPL_y (y_assign rfl) rfl ?_
    refine SPL_nil ?_
    refine thenP_n ?_
    refine SP_cond_t rfl ?_
    refine SP_seq ?_
    refine SP_region ?_
    refine SPL_y (y_move rfl) rfl ?_
    refine SPL_y (y_move rfl) rfl ?_
    refine SPL_y (y_rem rfl rfl (hub (by omega)) rfl) rfl ?_
    refine SPL_y (y_conv Tryz.underlying142 Tryz.underlying3 rfl rfl) rfl ?_
    refine SPL_y (y_assign rfl) rfl ?_
    refine SPL_y (y_assign rfl) rfl ?_
    refine SPL_nil ?_
    refine thenP_n ?_
    refine SP_ret ?_
    refine inBlockP_ret (thenP_ret (bodyP_ret (Res2 rfl rfl rfl) (Part.refl _) ?_))
    first
      | (exfalso; omega)
      | (refine ⟨?_, rfl⟩
         unfold mbin
         simp only [Int.zero_sub]
         repeat (first | rw [if_pos (by omega)] | rw [if_neg (by omega)])
         done)
      | (refine ⟨?_, rfl⟩
         unfold mbin
         repeat (first | rw [if_pos (by omega)] | rw [if_neg (by omega)])
         try rfl)
  intro h21_0
  refine SPL_y (y_assign rfl) rfl ?_
  refine SPL_nil ?_
  refine thenP_n ?_
  refine SP_cond_f rfl ?_
  refine SP_seq ?_
  refine SP_region ?_
  refine SPL_if (y_eql rfl rfl) rfl ?_ ?_
  · intro h23_0
    refine SPL_y (y_assign rfl) rfl ?_
    refine SPL_nil ?_
    refine thenP_n ?_
    refine SP_cond_t rfl ?_
    refine SP_seq ?_
    refine SP_region ?_
    refine SPL_y (y_move rfl) rfl ?_
    refine SPL_y (y_move rfl) rfl ?_
    refine SPL_y (y_and rfl rfl rfl) rfl ?_
    refine SPL_y (y_assign rfl) rfl ?_
    refine SPL_y (y_assign rfl) rfl ?_
    refine SPL_nil ?_
    refine thenP_n ?_
    refine SP_ret ?_
    refine inBlockP_ret (thenP_ret (bodyP_ret (Res2 rfl rfl rfl) (Part.refl _) ?_))
    first
      | (exfalso; omega)
      | (refine ⟨?_, rfl⟩
         unfold mbin
         simp only [Int.zero_sub]
         repeat (first | rw [if_pos (by omega)] | rw [if_neg (by omega)])
         done)
      | (refine ⟨?_, rfl⟩
         unfold mbin
         repeat (first | rw [if_pos (by omega)] | rw [if_neg (by omega)])
         try rfl)
  intro h23_0
  refine SPL_y (y_assign rfl) rfl ?_
  refine SPL_nil ?_
  refine thenP_n ?_
  refine SP_cond_f rfl ?_
  refine SP_seq ?_
  refine SP_region ?_
  refine SPL_if (y_eql rfl rfl) rfl ?_ ?_
  · intro h25_0
    refine SPL_y (y_assign rfl) rfl ?_
    refine SPL_nil ?_
    refine thenP_n ?_
    refine SP_cond_t rfl ?_
    refine SP_seq ?_
    refine SP_region ?_
    refine SPL_y (y_move rfl) rfl ?_
    refine SPL_y (y_move rfl) rfl ?_
    refine SPL_y (y_or rfl rfl rfl) rfl ?_
    refine SPL_y (y_assign rfl) rfl ?_
    refine SPL_y (y_assign rfl) rfl ?_
    refine SPL_nil ?_
    refine thenP_n ?_
    refine SP_ret ?_
    refine inBlockP_ret (thenP_ret (bodyP_ret (Res2 rfl rfl rfl) (Part.refl _) ?_))
    first
      | (exfalso; omega)
      | (refine ⟨?_, rfl⟩
         unfold mbin
         simp only [Int.zero_sub]
         repeat (first | rw [if_pos (by omega)] | rw [if_neg (by omega)])
         done)
      | (refine ⟨?_, rfl⟩
         unfold mbin
         repeat (first | rw [if_pos (by omega)] | rw [if_neg (by omega)])
         try rfl)
  intro h25_0
  refine SPL_y (y_assign rfl) rfl ?_
  refine SPL_nil ?_
  refine thenP_n ?_
  refine SP_cond_f rfl ?_
  refine SP_seq ?_
  refine SP_region ?_
  refine SPL_if (y_eql rfl rfl) rfl ?_ ?_
  · intro h27_0
    refine SPL_y (y_assign rfl) rfl ?_
    refine SPL_nil ?_
    refine thenP_n ?_
    refine SP_cond_t rfl ?_
    refine SP_seq ?_
    refine SP_region ?_
    refine SPL_y (y_move rfl) rfl ?_
    refine SPL_y (y_move rfl) rfl ?_
    refine SPL_y (y_xor rfl rfl rfl) rfl ?_
    refine SPL_y (y_assign rfl) rfl ?_
    refine SPL_y (y_assign rfl) rfl ?_
    refine SPL_nil ?_
    refine thenP_n ?_
    refine SP_ret ?_
    refine inBlockP_ret (thenP_ret (bodyP_ret (Res2 rfl rfl rfl) (Part.refl _) ?_))
    first
      | (exfalso; omega)
      | (refine ⟨?_, rfl⟩
         unfold mbin
         simp only [Int.zero_sub]
         repeat (first | rw [if_pos (by omega)] | rw [if_neg (by omega)])
         done)
      | (refine ⟨?_, rfl⟩
         unfold mbin
         repeat (first | rw [if_pos (by omega)] | rw [if_neg (by omega)])
         try rfl)
  intro h27_0
  refine SPL_y (y_assign rfl) rfl ?_
  refine SPL_nil ?_
  refine thenP_n ?_
  refine SP_cond_f rfl ?_
  refine SP_seq ?_
  refine SP_region ?_
  refine SPL_if (y_eql rfl rfl) rfl ?_ ?_
  · intro h29_0
    refine SPL_y (y_assign rfl) rfl ?_
    refine SPL_nil ?_
    refine thenP_n ?_
    refine SP_cond_t rfl ?_
    refine SP_seq ?_
    refine SP_region ?_
    refine SPL_y (y_move rfl) rfl ?_
    refine SPL_y (y_move rfl) rfl ?_
    refine SPL_y (y_shl rfl rfl hsh rfl) rfl ?_
    refine SPL_y (y_assign rfl) rfl ?_
    refine SPL_y (y_assign rfl) rfl ?_
    refine SPL_nil ?_
    refine thenP_n ?_
    refine SP_ret ?_
    refine inBlockP_ret (thenP_ret (bodyP_ret (Res2 rfl rfl rfl) (Part.refl _) ?_))
    first
      | (exfalso; omega)
      | (refine ⟨?_, rfl⟩
         unfold mbin
         simp only [Int.zero_sub]
         repeat (first | rw [if_pos (by omega)] | rw [if_neg (by omega)])
         done)
      | (refine ⟨?_, rfl⟩
         unfold mbin
         repeat (first | rw [if_pos (by omega)] | rw [if_neg (by omega)])
         try rfl)
  intro h29_0
  refine SPL_y (y_assign rfl) rfl ?_
  refine SPL_nil ?_
  refine thenP_n ?_
  refine SP_cond_f rfl ?_
  refine SP_seq ?_
  refine SP_region ?_
  refine SPL_if (y_eql rfl rfl) rfl ?_ ?_
  · intro h31_0
    refine SPL_y (y_assign rfl) rfl ?_
    refine SPL_nil ?_
    refine thenP_n ?_
    refine SP_cond_t rfl ?_
    refine SP_seq ?_
    refine SP_region ?_
    refine SPL_y (y_move rfl) rfl ?_
    refine SPL_y (y_move rfl) rfl ?_
    refine SPL_y (y_shr rfl rfl hsh rfl) rfl ?_
    refine SPL_y (y_assign rfl) rfl ?_
    refine SPL_y (y_assign rfl) rfl ?_
    refine SPL_nil ?_
    refine thenP_n ?_
    refine SP_ret ?_
    refine inBlockP_ret (thenP_ret (bodyP_ret (Res2 rfl rfl rfl) (Part.refl _) ?_))
    first
      | (exfalso; omega)
      | (refine ⟨?_, rfl⟩
         unfold mbin
         simp only [Int.zero_sub]
         repeat (first | rw [if_pos (by omega)] | rw [if_neg (by omega)])
         done)
      | (refine ⟨?_, rfl⟩
         unfold mbin
         repeat (first | rw [if_pos (by omega)] | rw [if_neg (by omega)])
         try rfl)
  intro h31_0
  refine SPL_y (y_assign rfl) rfl ?_
  refine SPL_nil ?_
  refine thenP_n ?_
  refine SP_cond_f rfl ?_
  refine SP_seq ?_
  refine SP_region ?_
  refine SPL_if (y_eql rfl rfl) rfl ?_ ?_
  · intro h33_0
    refine SPL_y (y_assign rfl) rfl ?_
    refine SPL_nil ?_
    refine thenP_n ?_
    refine SP_cond_t rfl ?_
    refine SP_seq ?_
    refine SP_region ?_
    refine SPL_y (y_move rfl) rfl ?_
    refine SPL_y (y_move rfl) rfl ?_
    refine SPL_y (y_shr rfl rfl hsh rfl) rfl ?_
    refine SPL_y (y_conv Tryz.underlying142 Tryz.underlying3 rfl rfl) rfl ?_
    refine SPL_y (y_assign rfl) rfl ?_
    refine SPL_y (y_assign rfl) rfl ?_
    refine SPL_nil ?_
    refine thenP_n ?_
    refine SP_ret ?_
    refine inBlockP_ret (thenP_ret (bodyP_ret (Res2 rfl rfl rfl) (Part.refl _) ?_))
    first
      | (exfalso; omega)
      | (refine ⟨?_, rfl⟩
         unfold mbin
         simp only [Int.zero_sub]
         repeat (first | rw [if_pos (by omega)] | rw [if_neg (by omega)])
         done)
      | (refine ⟨?_, rfl⟩
         unfold mbin
         repeat (first | rw [if_pos (by omega)] | rw [if_neg (by omega)])
         try rfl)
  intro h33_0
  refine SPL_y (y_assign rfl) rfl ?_
  refine SPL_nil ?_
  refine thenP_n ?_
  refine SP_cond_f rfl ?_
  refine SP_seq ?_
  refine SP_region ?_
  refine SPL_if (y_eql rfl rfl) rfl ?_ ?_
  · intro h35_0
    refine SPL_y (y_assign rfl) rfl ?_
    refine SPL_nil ?_
    refine thenP_n ?_
    refine SP_cond_t rfl ?_
    refine SP_seq ?_
    refine SP_region ?_
    refine SPL_y (y_move rfl) rfl ?_
    refine SPL_y (y_move rfl) rfl ?_
    refine SPL_y (y_eql rfl rfl) rfl ?_
    refine SPL_one rfl (SP1_call (mm_truth _) Tryz.call167 rfl rfl (by repeat (first | exact Part.nil _ | (apply Part.cons; (first | exact P0 | exact P1 | exact P2 | exact P3 | exact P4 | exact P5 | exact P6 | exact P7 | exact P8 | exact P9 | exact P10 | exact P11 | exact P12 | exact P13 | exact P14 | exact P15 | exact P16 | exact P17 | exact P18 | exact P19 | exact P20 | exact P21 | exact P22 | exact P23)) | (apply Part.flat; simp only [List.cons_append, List.nil_append]) | (apply Part.nilc))) ?_)
    rintro v post H' ⟨rfl, rfl⟩ hH
    try simp only [List.cons_append, List.nil_append] at hH
    subst hH
    refine SPL_y (y_assign rfl) rfl ?_
    refine SPL_y (y_assign rfl) rfl ?_
    refine SPL_nil ?_
    refine thenP_n ?_
    refine SP_ret ?_
    refine inBlockP_ret (thenP_ret (bodyP_ret (Res2 rfl rfl rfl) (Part.refl _) ?_))
    first
      | (exfalso; omega)
      | (refine ⟨?_, rfl⟩
         unfold mbin
         simp only [Int.zero_sub]
         repeat (first | rw [if_pos (by omega)] | rw [if_neg (by omega)])
         done)
      | (refine ⟨?_, rfl⟩
         unfold mbin
         repeat (first | rw [if_pos (by omega)] | rw [if_neg (by omega)])
         try rfl)
  intro h35_0
  refine SPL_y (y_assign rfl) rfl ?_
  refine SPL_nil ?_
  refine thenP_n ?_
  refine SP_cond_f rfl ?_
  refine SP_seq ?_
  refine SP_region ?_
  refine SPL_if (y_eql rfl rfl) rfl ?_ ?_
  · intro h37_0
    refine SPL_y (y_assign rfl) rfl ?_
    refine SPL_nil ?_
    refine thenP_n ?_
    refine SP_cond_t rfl ?_
    refine SP_seq ?_
    refine SP_region ?_
    refine SPL_y (y_move rfl) rfl ?_
    refine SPL_y (y_move rfl) rfl ?_
    refine SPL_y (y_lss rfl rfl) rfl ?_
    refine SPL_one rfl (SP1_call (mm_truth _) Tryz.call167 rfl rfl (by repeat (first | exact Part.nil _ | (apply Part.cons; (first | exact P0 | exact P1 | exact P2 | exact P3 | exact P4 | exact P5 | exact P6 | exact P7 | exact P8 | exact P9 | exact P10 | exact P11 | exact P12 | exact P13 | exact P14 | exact P15 | exact P16 | exact P17 | exact P18 | exact P19 | exact P20 | exact P21 | exact P22 | exact P23)) | (apply Part.flat; simp only [List.cons_append, List.nil_append]) | (apply Part.nilc))) ?_)
    rintro v post H' ⟨rfl, rfl⟩ hH
    try simp only [List.cons_append, List.nil_append] at hH
    subst hH
    refine SPL_y (y_assign rfl) rfl ?_
    refine SPL_y (y_assign rfl) rfl ?_
    refine SPL_nil ?_
    refine thenP_n ?_
    refine SP_ret ?_
    refine inBlockP_ret (thenP_ret (bodyP_ret (Res2 rfl rfl rfl) (Part.refl _) ?_))
    first
      | (exfalso; omega)
      | (refine ⟨?_, rfl⟩
         unfold mbin
         simp only [Int.zero_sub]
         repeat (first | rw [if_pos (by omega)] | rw [if_neg (by omega)])
         done)
      | (refine ⟨?_, rfl⟩
         unfold mbin
         repeat (first | rw [if_pos (by omega)] | rw [if_neg (by omega)])
         try rfl)
  intro h37_0
  refine SPL_y (y_assign rfl) rfl ?_
  refine SPL_nil ?_
  refine thenP_n ?_
  refine SP_cond_f rfl ?_
  refine SP_skip ?_
  refine inBlockP_n ?_
  refine thenP_n ?_
  refine SP_seq ?_
  refine SP_region ?_
  refine SPL_y (y_move rfl) rfl ?_
  refine SPL_y (y_move rfl) rfl ?_
  refine SPL_y (y_lss rfl rfl) rfl ?_
  refine SPL_one rfl (SP1_call (mm_truth _) Tryz.call167 rfl rfl (by repeat (first | exact Part.nil _ | (apply Part.cons; (first | exact P0 | exact P1 | exact P2 | exact P3 | exact P4 | exact P5 | exact P6 | exact P7 | exact P8 | exact P9 | exact P10 | exact P11 | exact P12 | exact P13 | exact P14 | exact P15 | exact P16 | exact P17 | exact P18 | exact P19 | exact P20 | exact P21 | exact P22 | exact P23)) | (apply Part.flat; simp only [List.cons_append, List.nil_append]) | (apply Part.nilc))) ?_)
  rintro v post H' ⟨rfl, rfl⟩ hH
  try simp only [List.cons_append, List.nil_append] at hH
  subst hH
  refine SPL_y (y_assign rfl) rfl ?_
  refine SPL_y (y_assign rfl) rfl ?_
  refine SPL_nil ?_
  refine thenP_n ?_
  refine SP_ret ?_
  refine bodyP_ret (Res2 rfl rfl rfl) (Part.refl _) ?_
  first
    | (exfalso; omega)
    | (refine ⟨?_, rfl⟩
       unfold mbin
       simp only [Int.zero_sub]
       repeat (first | rw [if_pos (by omega)] | rw [if_neg (by omega)])
       done)
    | (refine ⟨?_, rfl⟩
       unfold mbin
       repeat (first | rw [if_pos (by omega)] | rw [if_neg (by omega)])
       try rfl)

theorem ub32 (b : Int) : IntKind.i64.wrap (IntKind.i32.wrap b) ≠ 0 → bitI .and .u64 (IntKind.u64.wrap (IntKind.i64.wrap (IntKind.i32.wrap b))) 4294967295 ≠ 0 := by
  intro h
  rw [and_u32]
  rw [w32] at h ⊢
  have := i32_rng b
  omega
theorem ub64 (b : Int) (h1 : -9223372036854775808 ≤ b) (h2 : b ≤ 9223372036854775807) : b ≠ 0 → bitI .and .u64 (IntKind.u64.wrap b) 18446744073709551615 ≠ 0 := by
  intro h
  rw [and_full, IntKind.wrap_u64]
  omega

set_option maxHeartbeats 4000000 in
theorem mm_Alu (x : Value) (op a b : Int) (hb1 : -9223372036854775808 ≤ b) (hb2 : b ≤ 9223372036854775807) (ho : 0 ≤ op ∧ op ≤ 1000) : Spec Tryz.prog 162 [x, I op, I a, I b] [] (Ret fun v H => v = .tuple #[I (malu op a b).1, I (malu op a b).2] ∧ H = []) := by
  refine Spec_enter Tryz.func162 rfl Tryz.ntmps162 rfl ?_
  show SP _ _ _ _ _ [(0, _), (1, _), (2, _), (3, _)] _
  refine SP_seq ?_
  refine SP_region ?_
  refine SPL_y (y_assign rfl) rfl ?_
  refine SPL_y (y_assign rfl) rfl ?_
  refine SPL_nil ?_
  refine thenP_n ?_
  refine SP_seq ?_
  refine SP_seq ?_
  refine SP_region ?_
  refine SPL_y (y_move rfl) rfl ?_
  refine SPL_nil ?_
  refine thenP_n ?_
  refine SP_block ?_
  refine SP_seq ?_
  refine SP_region ?_
  refine SPL_if (y_eql rfl rfl) rfl ?_ ?_
  · intro h2_0
    refine SPL_y (y_assign rfl) rfl ?_
    refine SPL_nil ?_
    refine thenP_n ?_
    refine SP_cond_t rfl ?_
    refine SP_seq ?_
    refine SP_region ?_
    refine SPL_y (y_move rfl) rfl ?_
    refine SPL_y (y_conv Tryz.underlying3 Tryz.underlying21 rfl rfl) rfl ?_
    refine SPL_y (y_eql rfl rfl) rfl ?_
    refine SPL_one rfl (SP1_call (mm_truth _) Tryz.call167 rfl rfl (by repeat (first | exact Part.nil _ | (apply Part.cons; (first | exact P0 | exact P1 | exact P2 | exact P3 | exact P4 | exact P5 | exact P6 | exact P7 | exact P8 | exact P9 | exact P10 | exact P11 | exact P12 | exact P13 | exact P14 | exact P15 | exact P16 | exact P17 | exact P18 | exact P19 | exact P20 | exact P21 | exact P22 | exact P23)) | (apply Part.flat; simp only [List.cons_append, List.nil_append]) | (apply Part.nilc))) ?_)
    rintro v post H' ⟨rfl, rfl⟩ hH
    try simp only [List.cons_append, List.nil_append] at hH
    subst hH
    refine SPL_y (y_assign rfl) rfl ?_
    refine SPL_y (y_assign rfl) rfl ?_
    refine SPL_nil ?_
    refine thenP_n ?_
    refine SP_ret ?_
    refine inBlockP_ret (thenP_ret (bodyP_ret (Res2 rfl rfl rfl) (Part.refl _) ?_))
    first
      | (exfalso; omega)
      | (refine ⟨?_, rfl⟩
         unfold malu
         repeat (first | rw [if_pos (by omega)] | rw [if_neg (by omega)])
         try rfl)
  intro h2_0
  refine SPL_y (y_assign rfl) rfl ?_
  refine SPL_nil ?_
  refine thenP_n ?_
  refine SP_cond_f rfl ?_
  refine SP_seq ?_
  refine SP_region ?_
  refine SPL_if (y_eql rfl rfl) rfl ?_ ?_
  · intro h4_0
    refine SPL_y (y_assign rfl) rfl ?_
    refine SPL_nil ?_
    refine thenP_n ?_
    refine SP_cond_t rfl ?_
    refine SP_seq ?_
    refine SP_region ?_
    refine SPL_y (y_move rfl) rfl ?_
    refine SPL_y (y_eql rfl rfl) rfl ?_
    refine SPL_one rfl (SP1_call (mm_truth _) Tryz.call167 rfl rfl (by repeat (first | exact Part.nil _ | (apply Part.cons; (first | exact P0 | exact P1 | exact P2 | exact P3 | exact P4 | exact P5 | exact P6 | exact P7 | exact P8 | exact P9 | exact P10 | exact P11 | exact P12 | exact P13 | exact P14 | exact P15 | exact P16 | exact P17 | exact P18 | exact P19 | exact P20 | exact P21 | exact P22 | exact P23)) | (apply Part.flat; simp only [List.cons_append, List.nil_append]) | (apply Part.nilc))) ?_)
    rintro v post H' ⟨rfl, rfl⟩ hH
    try simp only [List.cons_append, List.nil_append] at hH
    subst hH
    refine SPL_y (y_assign rfl) rfl ?_
    refine SPL_y (y_assign rfl) rfl ?_
    refine SPL_nil ?_
    refine thenP_n ?_
    refine SP_ret ?_
    refine inBlockP_ret (thenP_ret (bodyP_ret (Res2 rfl rfl rfl) (Part.refl _) ?_))
    first
      | (exfalso; omega)
      | (refine ⟨?_, rfl⟩
         unfold malu
         repeat (first | rw [if_pos (by omega)] | rw [if_neg (by omega)])
         try rfl)
  intro h4_0
  refine SPL_y (y_assign rfl) rfl ?_
  refine SPL_nil ?_
  refine thenP_n ?_
  refine SP_cond_f rfl ?_
  refine SP_seq ?_
  refine SP_seq ?_
  refine SP_region ?_
  refine SPL_if (y_eql rfl rfl) rfl ?_ ?_
  · intro h6_0
    refine SPL_y (y_assign rfl) rfl ?_
    refine SPL_nil ?_
    refine thenP_n ?_
    refine SP_cond_t rfl ?_
    refine SP_skip ?_
    refine thenP_n ?_
    refine SP_cond_t rfl ?_
    refine SP_seq ?_
    refine SP_region ?_
    refine SPL_y (y_move rfl) rfl ?_
    refine SPL_y (y_conv Tryz.underlying3 Tryz.underlying21 rfl rfl) rfl ?_
    refine SPL_y (y_conv Tryz.underlying21 Tryz.underlying3 rfl rfl) rfl ?_
    refine SPL_y (y_assign rfl) rfl ?_
    refine SPL_y (y_assign rfl) rfl ?_
    refine SPL_nil ?_
    refine thenP_n ?_
    refine SP_ret ?_
    refine inBlockP_ret (thenP_ret (bodyP_ret (Res2 rfl rfl rfl) (Part.refl _) ?_))
    first
      | (exfalso; omega)
      | (refine ⟨?_, rfl⟩
         unfold malu
         repeat (first | rw [if_pos (by omega)] | rw [if_neg (by omega)])
         try rfl)
  intro h6_0
  refine SPL_y (y_assign rfl) rfl ?_
  refine SPL_nil ?_
  refine thenP_n ?_
  refine SP_cond_f rfl ?_
  refine SP_region ?_
  refine SPL_if (y_eql rfl rfl) rfl ?_ ?_
  · intro h7_0
    refine SPL_y (y_assign rfl) rfl ?_
    refine SPL_nil ?_
    refine thenP_n ?_
    refine SP_cond_t rfl ?_
    refine SP_seq ?_
    refine SP_region ?_
    refine SPL_y (y_move rfl) rfl ?_
    refine SPL_y (y_conv Tryz.underlying3 Tryz.underlying21 rfl rfl) rfl ?_
    refine SPL_y (y_conv Tryz.underlying21 Tryz.underlying3 rfl rfl) rfl ?_
    refine SPL_y (y_assign rfl) rfl ?_
    refine SPL_y (y_assign rfl) rfl ?_
    refine SPL_nil ?_
    refine thenP_n ?_
    refine SP_ret ?_
    refine inBlockP_ret (thenP_ret (bodyP_ret (Res2 rfl rfl rfl) (Part.refl _) ?_))
    first
      | (exfalso; omega)
      | (refine ⟨?_, rfl⟩
         unfold malu
         repeat (first | rw [if_pos (by omega)] | rw [if_neg (by omega)])
         try rfl)
  intro h7_0
  refine SPL_y (y_assign rfl) rfl ?_
  refine SPL_nil ?_
  refine thenP_n ?_
  refine SP_cond_f rfl ?_
  refine SP_seq ?_
  refine SP_region ?_
  refine SPL_if (y_eql rfl rfl) rfl ?_ ?_
  · intro h9_0
    refine SPL_y (y_assign rfl) rfl ?_
    refine SPL_nil ?_
    refine thenP_n ?_
    refine SP_cond_t rfl ?_
    refine SP_seq ?_
    refine SP_region ?_
    refine SPL_y (y_move rfl) rfl ?_
    refine SPL_y (y_and rfl rfl rfl) rfl ?_
    refine SPL_y (y_assign rfl) rfl ?_
    refine SPL_y (y_assign rfl) rfl ?_
    refine SPL_nil ?_
    refine thenP_n ?_
    refine SP_ret ?_
    refine inBlockP_ret (thenP_ret (bodyP_ret (Res2 rfl rfl rfl) (Part.refl _) ?_))
    first
      | (exfalso; omega)
      | (refine ⟨?_, rfl⟩
         unfold malu
         repeat (first | rw [if_pos (by omega)] | rw [if_neg (by omega)])
         try rfl)
  intro h9_0
  refine SPL_y (y_assign rfl) rfl ?_
  refine SPL_nil ?_
  refine thenP_n ?_
  refine SP_cond_f rfl ?_
  refine SP_skip ?_
  refine inBlockP_n ?_
  refine thenP_n ?_
  refine SP_seq ?_
  refine SP_seq ?_
  refine SP_region ?_
  refine SPL_y (y_move rfl) rfl ?_
  refine SPL_ifn (y_geq rfl rfl) rfl ?_ ?_
  · intro h11_1
    refine SPL_y (y_move rfl) rfl ?_
    refine SPL_gn rfl rfl rfl rfl ?_
    refine SPL_gn rfl rfl rfl rfl ?_
    refine SPL_y (y_pick_f rfl rfl) rfl ?_
    refine SPL_nil ?_
    refine thenP_n ?_
    refine SP_cond_f rfl ?_
    refine SP_skip ?_
    refine thenP_n ?_
    refine SP_seq ?_
    refine SP_seq ?_
    refine SP_region ?_
    refine SPL_y (y_move rfl) rfl ?_
    refine SPL_ifn (y_geq rfl rfl) rfl ?_ ?_
    · intro h14_1
      refine SPL_y (y_move rfl) rfl ?_
      refine SPL_gn rfl rfl rfl rfl ?_
      refine SPL_gn rfl rfl rfl rfl ?_
      refine SPL_y (y_pick_f rfl rfl) rfl ?_
      refine SPL_nil ?_
      refine thenP_n ?_
      refine SP_cond_f rfl ?_
      refine SP_skip ?_
      refine thenP_n ?_
      refine SP_seq ?_
      refine SP_region ?_
      refine SPL_y (y_assign rfl) rfl ?_
      refine SPL_y (y_assign rfl) rfl ?_
      refine SPL_nil ?_
      refine thenP_n ?_
      refine SP_ret ?_
      refine bodyP_ret (Res2 rfl rfl rfl) (Part.refl _) ?_
      first
        | (exfalso; omega)
        | (refine ⟨?_, rfl⟩
           unfold malu
           repeat (first | rw [if_pos (by omega)] | rw [if_neg (by omega)])
           try rfl)
    intro h14_1
    refine SPL_y (y_move rfl) rfl ?_
    refine SPL_gy rfl rfl ?_
    refine SPL_y (y_move rfl) rfl ?_
    refine SPL_gy rfl rfl ?_
    refine SPL_ifn (y_lss rfl rfl) rfl ?_ ?_
    · intro h14_4
      refine SPL_y (y_pick_t rfl rfl) rfl ?_
      refine SPL_nil ?_
      refine thenP_n ?_
      refine SP_cond_f rfl ?_
      refine SP_skip ?_
      refine thenP_n ?_
      refine SP_seq ?_
      refine SP_region ?_
      refine SPL_y (y_assign rfl) rfl ?_
      refine SPL_y (y_assign rfl) rfl ?_
      refine SPL_nil ?_
      refine thenP_n ?_
      refine SP_ret ?_
      refine bodyP_ret (Res2 rfl rfl rfl) (Part.refl _) ?_
      first
        | (exfalso; omega)
        | (refine ⟨?_, rfl⟩
           unfold malu
           repeat (first | rw [if_pos (by omega)] | rw [if_neg (by omega)])
           try rfl)
    intro h14_4
    refine SPL_y (y_pick_t rfl rfl) rfl ?_
    refine SPL_nil ?_
    refine thenP_n ?_
    refine SP_cond_t rfl ?_
    refine SP_seq ?_
    refine SP_region ?_
    refine SPL_y (y_move rfl) rfl ?_
    refine SPL_y (y_sub rfl rfl (by omega)) rfl ?_
    refine SPL_y (y_move rfl) rfl ?_
    refine SPL_y (y_move rfl) rfl ?_
    refine SPL_one rfl (SP1_call (mm_bin (op - 60) a b 18446744073709551615 63 (ub64 b hb1 hb2) (by rw [and_63]; omega)) Tryz.call168 rfl rfl (by repeat (first | exact Part.nil _ | (apply Part.cons; (first | exact P0 | exact P1 | exact P2 | exact P3 | exact P4 | exact P5 | exact P6 | exact P7 | exact P8 | exact P9 | exact P10 | exact P11 | exact P12 | exact P13 | exact P14 | exact P15 | exact P16 | exact P17 | exact P18 | exact P19 | exact P20 | exact P21 | exact P22 | exact P23)) | (apply Part.flat; simp only [List.cons_append, List.nil_append]) | (apply Part.nilc))) ?_)
    rintro v post H' ⟨rfl, rfl⟩ hH
    try simp only [List.cons_append, List.nil_append] at hH
    subst hH
    refine SPL_y (y_ext rfl rfl) rfl ?_
    refine SPL_y (y_ext rfl rfl) rfl ?_
    refine SPL_y (y_assign rfl) rfl ?_
    refine SPL_y (y_assign rfl) rfl ?_
    refine SPL_nil ?_
    refine thenP_n ?_
    refine SP_ret ?_
    refine thenP_ret (bodyP_ret (Res2 rfl rfl rfl) (Part.refl _) ?_)
    first
      | (exfalso; omega)
      | (refine ⟨?_, rfl⟩
         unfold malu
         repeat (first | rw [if_pos (by omega)] | rw [if_neg (by omega)])
         try rfl)
  intro h11_1
  refine SPL_y (y_move rfl) rfl ?_
  refine SPL_gy rfl rfl ?_
  refine SPL_y (y_move rfl) rfl ?_
  refine SPL_gy rfl rfl ?_
  refine SPL_if (y_lss rfl rfl) rfl ?_ ?_
  · intro h11_4
    refine SPL_y (y_pick_t rfl rfl) rfl ?_
    refine SPL_nil ?_
    refine thenP_n ?_
    refine SP_cond_t rfl ?_
    refine SP_seq ?_
    refine SP_region ?_
    refine SPL_y (y_move rfl) rfl ?_
    refine SPL_y (y_sub rfl rfl (by omega)) rfl ?_
    refine SPL_y (y_move rfl) rfl ?_
    refine SPL_y (y_conv Tryz.underlying3 Tryz.underlying21 rfl rfl) rfl ?_
    refine SPL_y (y_conv Tryz.underlying21 Tryz.underlying3 rfl rfl) rfl ?_
    refine SPL_y (y_move rfl) rfl ?_
    refine SPL_y (y_conv Tryz.underlying3 Tryz.underlying21 rfl rfl) rfl ?_
    refine SPL_y (y_conv Tryz.underlying21 Tryz.underlying3 rfl rfl) rfl ?_
    refine SPL_one rfl (SP1_call (mm_bin (op - 40) _ _ 4294967295 31 (ub32 b) (by rw [and_31]; omega)) Tryz.call168 rfl rfl (by repeat (first | exact Part.nil _ | (apply Part.cons; (first | exact P0 | exact P1 | exact P2 | exact P3 | exact P4 | exact P5 | exact P6 | exact P7 | exact P8 | exact P9 | exact P10 | exact P11 | exact P12 | exact P13 | exact P14 | exact P15 | exact P16 | exact P17 | exact P18 | exact P19 | exact P20 | exact P21 | exact P22 | exact P23)) | (apply Part.flat; simp only [List.cons_append, List.nil_append]) | (apply Part.nilc))) ?_)
    rintro v post H' ⟨rfl, rfl⟩ hH
    try simp only [List.cons_append, List.nil_append] at hH
    subst hH
    refine SPL_y (y_move rfl) rfl ?_
    refine SPL_y (y_ext rfl rfl) rfl ?_
    refine SPL_y (y_ext rfl rfl) rfl ?_
    refine SPL_y (y_assign rfl) rfl ?_
    refine SPL_y (y_assign rfl) rfl ?_
    refine SPL_nil ?_
    refine thenP_n ?_
    refine SP_seq ?_
    refine SP_region ?_
    refine SPL_y (y_move rfl) rfl ?_
    refine SPL_y (y_conv Tryz.underlying3 Tryz.underlying21 rfl rfl) rfl ?_
    refine SPL_y (y_conv Tryz.underlying21 Tryz.underlying3 rfl rfl) rfl ?_
    refine SPL_y (y_move rfl) rfl ?_
    refine SPL_y (y_assign rfl) rfl ?_
    refine SPL_y (y_assign rfl) rfl ?_
    refine SPL_nil ?_
    refine thenP_n ?_
    refine SP_ret ?_
    refine thenP_ret (bodyP_ret (Res2 rfl rfl rfl) (Part.refl _) ?_)
    first
      | (exfalso; omega)
      | (refine ⟨?_, rfl⟩
         unfold malu
         repeat (first | rw [if_pos (by omega)] | rw [if_neg (by omega)])
         try rfl)
  intro h11_4
  refine SPL_y (y_pick_t rfl rfl) rfl ?_
  refine SPL_nil ?_
  refine thenP_n ?_
  refine SP_cond_f rfl ?_
  refine SP_skip ?_
  refine thenP_n ?_
  refine SP_seq ?_
  refine SP_seq ?_
  refine SP_region ?_
  refine SPL_y (y_move rfl) rfl ?_
  refine SPL_ifn (y_geq rfl rfl) rfl ?_ ?_
  · intro h14_1
    refine SPL_y (y_move rfl) rfl ?_
    refine SPL_gn rfl rfl rfl rfl ?_
    refine SPL_gn rfl rfl rfl rfl ?_
    refine SPL_y (y_pick_f rfl rfl) rfl ?_
    refine SPL_nil ?_
    refine thenP_n ?_
    refine SP_cond_f rfl ?_
    refine SP_skip ?_
    refine thenP_n ?_
    refine SP_seq ?_
    refine SP_region ?_
    refine SPL_y (y_assign rfl) rfl ?_
    refine SPL_y (y_assign rfl) rfl ?_
    refine SPL_nil ?_
    refine thenP_n ?_
    refine SP_ret ?_
    refine bodyP_ret (Res2 rfl rfl rfl) (Part.refl _) ?_
    first
      | (exfalso; omega)
      | (refine ⟨?_, rfl⟩
         unfold malu
         repeat (first | rw [if_pos (by omega)] | rw [if_neg (by omega)])
         try rfl)
  intro h14_1
  refine SPL_y (y_move rfl) rfl ?_
  refine SPL_gy rfl rfl ?_
  refine SPL_y (y_move rfl) rfl ?_
  refine SPL_gy rfl rfl ?_
  refine SPL_ifn (y_lss rfl rfl) rfl ?_ ?_
  · intro h14_4
    refine SPL_y (y_pick_t rfl rfl) rfl ?_
    refine SPL_nil ?_
    refine thenP_n ?_
    refine SP_cond_f rfl ?_
    refine SP_skip ?_
    refine thenP_n ?_
    refine SP_seq ?_
    refine SP_region ?_
    refine SPL_y (y_assign rfl) rfl ?_
    refine SPL_y (y_assign rfl) rfl ?_
    refine SPL_nil ?_
    refine thenP_n ?_
    refine SP_ret ?_
    refine bodyP_ret (Res2 rfl rfl rfl) (Part.refl _) ?_
    first
      | (exfalso; omega)
      | (refine ⟨?_, rfl⟩
         unfold malu
         repeat (first | rw [if_pos (by omega)] | rw [if_neg (by omega)])
         try rfl)
  intro h14_4
  refine SPL_y (y_pick_t rfl rfl) rfl ?_
  refine SPL_nil ?_
  refine thenP_n ?_
  refine SP_cond_t rfl ?_
  refine SP_seq ?_
  refine SP_region ?_
  refine SPL_y (y_move rfl) rfl ?_
  refine SPL_y (y_sub rfl rfl (by omega)) rfl ?_
  refine SPL_y (y_move rfl) rfl ?_
  refine SPL_y (y_move rfl) rfl ?_
  refine SPL_one rfl (SP1_call (mm_bin (op - 60) a b 18446744073709551615 63 (ub64 b hb1 hb2) (by rw [and_63]; omega)) Tryz.call168 rfl rfl (by repeat (first | exact Part.nil _ | (apply Part.cons; (first | exact P0 | exact P1 | exact P2 | exact P3 | exact P4 | exact P5 | exact P6 | exact P7 | exact P8 | exact P9 | exact P10 | exact P11 | exact P12 | exact P13 | exact P14 | exact P15 | exact P16 | exact P17 | exact P18 | exact P19 | exact P20 | exact P21 | exact P22 | exact P23)) | (apply Part.flat; simp only [List.cons_append, List.nil_append]) | (apply Part.nilc))) ?_)
  rintro v post H' ⟨rfl, rfl⟩ hH
  try simp only [List.cons_append, List.nil_append] at hH
  subst hH
  refine SPL_y (y_ext rfl rfl) rfl ?_
  refine SPL_y (y_ext rfl rfl) rfl ?_
  refine SPL_y (y_assign rfl) rfl ?_
  refine SPL_y (y_assign rfl) rfl ?_
  refine SPL_nil ?_
  refine thenP_n ?_
  refine SP_ret ?_
  refine thenP_ret (bodyP_ret (Res2 rfl rfl rfl) (Part.refl _) ?_)
  first
    | (exfalso; omega)
    | (refine ⟨?_, rfl⟩
       unfold malu
       repeat (first | rw [if_pos (by omega)] | rw [if_neg (by omega)])
       try rfl)

theorem mm_Show (b : Nat) (m : Mem) (s : Seg) (hm : isMm b m s) : Spec Tryz.prog 76 [.pointer (some ⟨b, 0, none⟩)] [s] (Ret fun v H => v = S (showMem m) ∧ H = [s]) := by
  obtain ⟨ba, bc, sb, rfl, hb, h88, hlm, hm4⟩ := hm
  refine Spec_flat ?_
  simp only [List.cons_append, List.nil_append]
  refine Spec_enter Tryz.func76 rfl Tryz.ntmps76 rfl ?_
  show SP _ _ _ _ _ [(0, _)] _
  refine SP_seq ?_
  refine SP_region ?_
  refine SPL_y (y_assign rfl) rfl ?_
  refine SPL_nil ?_
  refine thenP_n ?_
  refine SP_seq ?_
  refine SP_region ?_
  refine SPL_y (y_move rfl) rfl ?_
  refine SPL_y (y_nil rfl) rfl ?_
  refine SPL_y (y_fa fld_177_0 rfl) rfl ?_
  refine SPL_y (y_load Tryz.isAgg144 rfl (by repeat (first | exact Cell.head rfl | apply Cell.tail))) rfl ?_
  refine SPL_y (y_len_l Tryz.underlying144 rfl) rfl ?_
  refine SPL_y (y_quo (c := ((m.bytes.length / 8 : Nat) : Int)) rfl rfl (by omega) (by rw [Int.tdiv_eq_ediv_of_nonneg (by omega), wrap_i64 (by omega) (by omega)]; omega)) rfl ?_
  refine SPL_one rfl (SP1_call (api_Num [] (m.bytes.length / 8 : Nat) (by simp) (by omega) (by omega)) Tryz.call41 rfl rfl (by repeat (first | exact Part.nil _ | (apply Part.cons; (first | exact P0 | exact P1 | exact P2 | exact P3 | exact P4 | exact P5 | exact P6 | exact P7 | exact P8 | exact P9 | exact P10 | exact P11 | exact P12 | exact P13 | exact P14 | exact P15 | exact P16 | exact P17 | exact P18 | exact P19 | exact P20 | exact P21 | exact P22 | exact P23)) | (apply Part.flat; simp only [List.cons_append, List.nil_append]) | (apply Part.nilc))) ?_)
  rintro v post H' ⟨rfl, rfl⟩ hH
  try simp only [List.cons_append, List.nil_append] at hH
  subst hH
  refine SPL_y (y_assign rfl) rfl ?_
  refine SPL_nil ?_
  refine thenP_n ?_
  refine SP_seq ?_
  refine SP_region ?_
  refine SPL_y (y_move rfl) rfl ?_
  refine SPL_y (y_move rfl) rfl ?_
  refine SPL_y (y_nil rfl) rfl ?_
  refine SPL_y (y_fa fld_177_1 rfl) rfl ?_
  refine SPL_y (y_load Tryz.isAgg3 rfl (by repeat (first | exact Cell.head rfl | apply Cell.tail))) rfl ?_
  refine SPL_one rfl (SP1_call (api_Num (num [] (m.bytes.length / 8 : Nat)) m.max (by have := num_len [] (m.bytes.length / 8 : Nat); simp only [List.length_nil] at this; omega) (by omega) (by omega)) Tryz.call41 rfl rfl (by repeat (first | exact Part.nil _ | (apply Part.cons; (first | exact P0 | exact P1 | exact P2 | exact P3 | exact P4 | exact P5 | exact P6 | exact P7 | exact P8 | exact P9 | exact P10 | exact P11 | exact P12 | exact P13 | exact P14 | exact P15 | exact P16 | exact P17 | exact P18 | exact P19 | exact P20 | exact P21 | exact P22 | exact P23)) | (apply Part.flat; simp only [List.cons_append, List.nil_append]) | (apply Part.nilc))) ?_)
  rintro v post H' ⟨rfl, rfl⟩ hH
  try simp only [List.cons_append, List.nil_append] at hH
  subst hH
  refine SPL_y (y_assign rfl) rfl ?_
  refine SPL_nil ?_
  refine thenP_n ?_
  refine SP_seq ?_
  refine SP_seq ?_
  refine SP_region ?_
  refine SPL_y (y_assign rfl) rfl ?_
  refine SPL_nil ?_
  refine thenP_n ?_
  refine SP_block ?_
  refine SP_loop (G := Nat × List UInt8) (fun g => m.bytes.length - g.1) (fun g => [(0, .pointer (some ⟨b, 0, none⟩)), (3, S g.2), (4, I g.1)]) (fun g => [blk b 177 [.slice ba m.bytes.length bc, I m.max], sb]) (fun g => g.1 ≤ m.bytes.length ∧ g.2 = numS (m.bytes.length / 8 : Nat) ++ numS m.max ++ (m.bytes.take g.1).flatMap (fun c => numS c.toNat) ∧ g.2.length ≤ 44 + 22 * g.1) ((0, num (num [] (m.bytes.length / 8 : Nat)) m.max)) (⟨Nat.zero_le _, by simp [num], by have h1 := num_len (num [] (m.bytes.length / 8 : Nat)) m.max; have h2 := num_len [] (m.bytes.length / 8 : Nat); simp only [List.length_nil] at h1 h2 ⊢; omega⟩) (by repeat (first | exact Sub.nil _ | refine Sub.cons rfl ?_)) (by repeat (first | exact Part.nil _ | (apply Part.cons; (first | exact P0 | exact P1 | exact P2 | exact P3 | exact P4 | exact P5 | exact P6 | exact P7 | exact P8 | exact P9 | exact P10 | exact P11 | exact P12 | exact P13 | exact P14 | exact P15 | exact P16 | exact P17 | exact P18 | exact P19 | exact P20 | exact P21 | exact P22 | exact P23)) | (apply Part.flat; simp only [List.cons_append, List.nil_append]) | (apply Part.nilc))) ?_
  rintro ⟨k, x⟩ ⟨hk, hx, hxl⟩
  dsimp only at hk hx hxl ⊢
  refine SP_seq ?_
  refine SP_seq ?_
  refine SP_region ?_
  refine SPL_y (y_move rfl) rfl ?_
  refine SPL_y (y_move rfl) rfl ?_
  refine SPL_y (y_nil rfl) rfl ?_
  refine SPL_y (y_fa fld_177_0 rfl) rfl ?_
  refine SPL_y (y_load Tryz.isAgg144 rfl (by repeat (first | exact Cell.head rfl | apply Cell.tail))) rfl ?_
  refine SPL_y (y_len_l Tryz.underlying144 rfl) rfl ?_
  refine SPL_ifn (y_lss rfl rfl) rfl ?_ ?_
  · intro h4_6
    refine SPL_nil ?_
    refine thenP_n ?_
    refine SP_cond_f rfl ?_
    refine SP_exit ?_
    refine thenP_exit ?_
    refine thenP_exit ?_
    refine inBlockP_hit ?_
    refine thenP_n ?_
    refine SP_seq ?_
    refine SP_region ?_
    refine SPL_y (y_move rfl) rfl ?_
    refine SPL_y (y_assign rfl) rfl ?_
    refine SPL_nil ?_
    refine thenP_n ?_
    refine SP_ret ?_
    refine bodyP_ret (H' := [List.flatten [blk b 177 [.slice ba m.bytes.length bc, I m.max], sb]]) (Res1 rfl rfl) (by repeat (first | exact Part.nil _ | (apply Part.cons; (first | exact P0 | exact P1 | exact P2 | exact P3 | exact P4 | exact P5 | exact P6 | exact P7 | exact P8 | exact P9 | exact P10 | exact P11 | exact P12 | exact P13 | exact P14 | exact P15 | exact P16 | exact P17 | exact P18 | exact P19 | exact P20 | exact P21 | exact P22 | exact P23)) | (apply Part.flat; simp only [List.cons_append, List.nil_append]) | (apply Part.nilc))) ?_
    refine ⟨?_, rfl⟩
    rw [hx, List.take_of_length_le (by omega)]; rfl
  intro h4_6
  refine SPL_nil ?_
  refine thenP_n ?_
  refine SP_cond_t rfl ?_
  refine SP_skip ?_
  refine thenP_n ?_
  refine SP_seq ?_
  refine SP_block ?_
  have hkl : k < m.bytes.length := by omega
  obtain ⟨bt, spt, rfl, htc, hspt, rfl⟩ := hb.row (by omega)
  refine SP_region ?_
  refine SPL_y (y_move rfl) rfl ?_
  refine SPL_y (y_move rfl) rfl ?_
  refine SPL_y (y_nil rfl) rfl ?_
  refine SPL_y (y_fa fld_177_0 rfl) rfl ?_
  refine SPL_y (y_load Tryz.isAgg144 rfl (by repeat (first | exact Cell.head rfl | apply Cell.tail))) rfl ?_
  refine SPL_y (y_move rfl) rfl ?_
  refine SPL_y (y_ia Tryz.underlying144 Tryz.sizeOf5 rfl rfl (by omega)) rfl ?_
  refine SPL_y (y_load Tryz.isAgg5 rfl (by repeat (first | exact Cell.head (row1 (i := k) (by omega) hkl) | apply Cell.tail))) rfl ?_
  refine SPL_y (y_conv Tryz.underlying5 Tryz.underlying3 rfl (wrap_i64 (x := (m.bytes[k].toNat : Int)) (by omega) (by have := UInt8.toNat_lt m.bytes[k]; omega))) rfl ?_
  refine SPL_one rfl (SP1_call (api_Num x m.bytes[k].toNat (by omega) (by have := UInt8.toNat_lt m.bytes[k]; omega) (by have := UInt8.toNat_lt m.bytes[k]; omega)) Tryz.call41 rfl rfl (by repeat (first | exact Part.nil _ | (apply Part.cons; (first | exact P0 | exact P1 | exact P2 | exact P3 | exact P4 | exact P5 | exact P6 | exact P7 | exact P8 | exact P9 | exact P10 | exact P11 | exact P12 | exact P13 | exact P14 | exact P15 | exact P16 | exact P17 | exact P18 | exact P19 | exact P20 | exact P21 | exact P22 | exact P23)) | (apply Part.flat; simp only [List.cons_append, List.nil_append]) | (apply Part.nilc))) ?_)
  rintro v post H' ⟨rfl, rfl⟩ hH
  try simp only [List.cons_append, List.nil_append] at hH
  subst hH
  refine SPL_y (y_assign rfl) rfl ?_
  refine SPL_nil ?_
  refine inBlockP_n ?_
  refine thenP_n ?_
  refine SP_region ?_
  refine SPL_y (y_move rfl) rfl ?_
  refine SPL_y (y_add rfl rfl (by omega)) rfl ?_
  refine SPL_y (y_assign rfl) rfl ?_
  refine SPL_nil ?_
  refine thenP_n ?_
  exact Again.intro ((k + 1, num x m.bytes[k].toNat)) (⟨by dsimp only; omega, by dsimp only; rw [hx, List.take_succ_eq_append_getElem hkl, List.flatMap_append]; simp only [num, List.append_assoc, List.flatMap_cons, List.flatMap_nil, List.append_nil], by dsimp only; have := num_len x m.bytes[k].toNat; omega⟩) (by simp only []; omega) (by repeat (first | exact Sub.nil _ | refine Sub.cons rfl ?_)) (by repeat (first | exact Part.nil _ | (apply Part.cons; (first | exact P0 | exact P1 | exact P2 | exact P3 | exact P4 | exact P5 | exact P6 | exact P7 | exact P8 | exact P9 | exact P10 | exact P11 | exact P12 | exact P13 | exact P14 | exact P15 | exact P16 | exact P17 | exact P18 | exact P19 | exact P20 | exact P21 | exact P22 | exact P23)) | (apply Part.flat; simp only [List.cons_append, List.nil_append]) | (apply Part.nilc)))

end Go.Sl
