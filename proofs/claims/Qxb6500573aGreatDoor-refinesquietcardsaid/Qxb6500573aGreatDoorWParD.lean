/- Walks: package syntax, the parser: statements (made by program out of short notes) -/
import Derived.Test.Qxb6500573aGreatDoorWParC
namespace Go.Sl
open Go Go.Wl Go.Proofs
set_option maxRecDepth 100000
set_option linter.unusedVariables false
set_option linter.unusedSimpArgs false
theorem pr_results (x : PX) (rc : Rec) (hr : RecOk x rc) {room at_ : Int} {s s' : PS} {t : T} (hP : resultsP x.toks rc room at_ s = some (t, s')) : Spec Tryz.prog 192 [pt x.p, I room, I at_] [x.gs, x.b s, x.st] (Ret (ndOk x t s')) := by
  unfold resultsP at hP
  obtain ⟨hrm, hP⟩ := grd hP
  refine Spec_enter Tryz.func192 rfl Tryz.ntmps192 rfl ?_
  show SP _ _ _ _ _ [(0, _), (1, _), (2, _)] _
  refine SP_seq ?_
  refine SP_region ?_
  refine SPL_y (y_assign rfl) rfl ?_
  refine SPL_nil ?_
  refine thenP_n ?_
  refine SP_seq ?_
  refine SP_region ?_
  refine SPL_y (y_move rfl) rfl ?_
  refine SPL_y (y_build B382 rfl rfl (by simp only [fillL, List.foldl_cons, List.foldl_nil, List.set_cons_zero, List.set_cons_succ]; exact rfl)) rfl ?_
  refine SPL_one rfl (SP1_box rfl rfl rfl ?_)
  intro b10
  refine SPL_y (y_assign rfl) rfl ?_
  refine SPL_nil ?_
  refine thenP_n ?_
  refine SP_seq ?_
  refine SP_seq ?_
  refine SP_region ?_
  refine SPL_y (y_move rfl) rfl ?_
  refine SPL_one rfl (SP1_call (pr_ends x _) Tryz.call125 rfl rfl (by repeat (first | exact Part.nil _ | (apply Part.cons; (first | exact P0 | exact P1 | exact P2 | exact P3 | exact P4 | exact P5 | exact P6 | exact P7 | exact P8 | exact P9 | exact P10 | exact P11 | exact P12 | exact P13 | exact P14 | exact P15 | exact P16 | exact P17 | exact P18 | exact P19 | exact P20 | exact P21 | exact P22 | exact P23)) | (apply Part.flat; simp only [List.cons_append, List.nil_append]) | (apply Part.nilc))) ?_)
  rintro v post H' ⟨rfl, rfl⟩ hH
  generalize hen : endsP s = en at hP ⊢
  rcases en with _ | _
  · try simp only [List.cons_append, List.nil_append] at hH
    subst hH
    try dsimp only [cond_true, cond_false, Bool.true_or, Bool.false_or] at hP
    refine SPL_nil ?_
    refine thenP_n ?_
    refine SP_cond_f rfl ?_
    refine SP_skip ?_
    refine thenP_n ?_
    refine SP_seq ?_
    refine SP_region ?_
    refine SPL_y (y_move rfl) rfl ?_
    refine SPL_y (y_move rfl) rfl ?_
    refine SPL_y (y_move rfl) rfl ?_
    refine SPL_y (y_sub rfl rfl (by omega)) rfl ?_
    obtain ⟨t4, s4, hq4, hP⟩ := bnd2 hP
    refine SPL_one rfl (SP1_call (hr.expr _ _ _ _ _ hq4) Tryz.call190 rfl rfl (by repeat (first | exact Part.nil _ | (apply Part.cons; (first | exact P0 | exact P1 | exact P2 | exact P3 | exact P4 | exact P5 | exact P6 | exact P7 | exact P8 | exact P9 | exact P10 | exact P11 | exact P12 | exact P13 | exact P14 | exact P15 | exact P16 | exact P17 | exact P18 | exact P19 | exact P20 | exact P21 | exact P22 | exact P23)) | (apply Part.flat; simp only [List.cons_append, List.nil_append]) | (apply Part.nilc))) ?_)
    rintro v4 post H' ⟨sn4, hN4, rfl⟩ hH
    rcases hN4.two with ⟨rfl, rfl, rfl⟩ | ⟨hn4, nb4, rfl⟩
    · try simp only [List.cons_append, List.nil_append] at hH
      subst hH
      try dsimp only [cond_true, cond_false, Bool.true_or, Bool.false_or] at hP
      refine SPL_y (y_nil rfl) rfl ?_
      refine SPL_y (y_fa fld_382_1 rfl) rfl ?_
      refine SPL_one rfl (SP1_store Tryz.sizeOf292 rfl rfl rfl (by first | exact U0 | exact U1 | exact U2 | exact U3 | exact U4 | exact U5 | exact U6 | exact U7 | exact U8 | exact U9 | exact U10 | exact U11 | exact U12 | exact U13 | exact U14 | exact U15 | exact U16 | exact U17 | exact U18 | exact U19 | exact U20 | exact U21 | exact U22 | exact U23) (by rfl) ?_)
      refine SPL_nil ?_
      refine thenP_n ?_
      refine SP_seq ?_
      refine SP_seq ?_
      refine SP_region ?_
      refine SPL_y (y_move rfl) rfl ?_
      refine SPL_y (y_nil rfl) rfl ?_
      refine SPL_y (y_fa fld_382_1 rfl) rfl ?_
      refine SPL_y (y_load Tryz.isAgg292 rfl (by repeat (first | exact Cell.amid hpre rfl | exact Cell.head rfl | apply Cell.tail))) rfl ?_
      refine SPL_ifn (y_nE Tryz.underlying292 rfl (by assumption)) rfl ?_ ?_
      · intro h5_4
        first | rw [if_neg h5_4] at hP | rw [if_pos (Decidable.not_not.1 h5_4)] at hP | skip
        exact absurd rfl h5_4
      intro h5_4
      first | rw [if_pos h5_4] at hP | rw [if_neg h5_4] at hP | skip
      refine SPL_nil ?_
      refine thenP_n ?_
      refine SP_cond_t rfl ?_
      refine SP_seq ?_
      refine SP_region ?_
      refine SPL_y (y_assign rfl) rfl ?_
      refine SPL_nil ?_
      refine thenP_n ?_
      refine SP_ret ?_
      refine thenP_ret (bodyP_ret (H' := [x.gs, x.b _, x.st, []]) (Res1 rfl rfl) (by repeat (first | exact Part.nil _ | (apply Part.cons; (first | exact P0 | exact P1 | exact P2 | exact P3 | exact P4 | exact P5 | exact P6 | exact P7 | exact P8 | exact P9 | exact P10 | exact P11 | exact P12 | exact P13 | exact P14 | exact P15 | exact P16 | exact P17 | exact P18 | exact P19 | exact P20 | exact P21 | exact P22 | exact P23)) | (apply Part.flat; simp only [List.cons_append, List.nil_append]) | (apply Part.nilc))) ?_)
      injection hP with hP
      injection hP with h1 h2
      subst h1
      subst h2
      exact ⟨[], .nil, rfl⟩
    · try simp only [List.cons_append, List.nil_append] at hH
      subst hH
      try dsimp only [cond_true, cond_false, Bool.true_or, Bool.false_or] at hP
      refine SPL_y (y_nil rfl) rfl ?_
      refine SPL_y (y_fa fld_382_1 rfl) rfl ?_
      refine SPL_one rfl (SP1_store Tryz.sizeOf292 rfl rfl rfl (by first | exact U0 | exact U1 | exact U2 | exact U3 | exact U4 | exact U5 | exact U6 | exact U7 | exact U8 | exact U9 | exact U10 | exact U11 | exact U12 | exact U13 | exact U14 | exact U15 | exact U16 | exact U17 | exact U18 | exact U19 | exact U20 | exact U21 | exact U22 | exact U23) (by rfl) ?_)
      refine SPL_nil ?_
      refine thenP_n ?_
      refine SP_seq ?_
      refine SP_seq ?_
      refine SP_region ?_
      refine SPL_y (y_move rfl) rfl ?_
      refine SPL_y (y_nil rfl) rfl ?_
      refine SPL_y (y_fa fld_382_1 rfl) rfl ?_
      refine SPL_y (y_load Tryz.isAgg292 rfl (by repeat (first | exact Cell.amid hpre rfl | exact Cell.head rfl | apply Cell.tail))) rfl ?_
      refine SPL_if (y_nE Tryz.underlying292 rfl (by assumption)) rfl ?_ ?_
      · intro h5_4
        first | rw [if_pos h5_4] at hP | rw [if_neg h5_4] at hP | skip
        rw [hn4] at h5_4
        cases h5_4
      intro h5_4
      first | rw [if_neg h5_4] at hP | rw [if_pos (Decidable.not_not.1 h5_4)] at hP | skip
      refine SPL_nil ?_
      refine thenP_n ?_
      refine SP_cond_f rfl ?_
      refine SP_skip ?_
      refine thenP_n ?_
      refine SP_seq ?_
      refine SP_seq ?_
      refine SP_region ?_
      refine SPL_y (y_move rfl) rfl ?_
      obtain ⟨b7, s7, hq7, hP⟩ := bnd2 hP
      refine SPL_one rfl (SP1_call (pr_accept x hq7) Tryz.call241 rfl rfl (by repeat (first | exact Part.nil _ | (apply Part.cons; (first | exact P0 | exact P1 | exact P2 | exact P3 | exact P4 | exact P5 | exact P6 | exact P7 | exact P8 | exact P9 | exact P10 | exact P11 | exact P12 | exact P13 | exact P14 | exact P15 | exact P16 | exact P17 | exact P18 | exact P19 | exact P20 | exact P21 | exact P22 | exact P23)) | (apply Part.flat; simp only [List.cons_append, List.nil_append]) | (apply Part.nilc))) ?_)
      rintro v post H' ⟨rfl, rfl⟩ hH
      rcases b7 with _ | _
      · try simp only [List.cons_append, List.nil_append] at hH
        subst hH
        try dsimp only [cond_true, cond_false, Bool.true_or, Bool.false_or] at hP
        refine SPL_y (y_not_f rfl) rfl ?_
        refine SPL_nil ?_
        refine thenP_n ?_
        refine SP_cond_t rfl ?_
        refine SP_seq ?_
        refine SP_region ?_
        refine SPL_y (y_move rfl) rfl ?_
        refine SPL_y (y_mki Tryz.underlying233 rfl rfl) rfl ?_
        refine SPL_y (y_assign rfl) rfl ?_
        refine SPL_nil ?_
        refine thenP_n ?_
        refine SP_ret ?_
        refine thenP_ret (bodyP_ret (H' := [x.gs, x.b s7, x.st, List.flatten [blk b10 382 [I at_, .iface t4.ty (pt nb4), .nilIface], sn4, []]]) (Res1 rfl rfl) (by repeat (first | exact Part.nil _ | (apply Part.cons; (first | exact P0 | exact P1 | exact P2 | exact P3 | exact P4 | exact P5 | exact P6 | exact P7 | exact P8 | exact P9 | exact P10 | exact P11 | exact P12 | exact P13 | exact P14 | exact P15 | exact P16 | exact P17 | exact P18 | exact P19 | exact P20 | exact P21 | exact P22 | exact P23)) | (apply Part.flat; simp only [List.cons_append, List.nil_append]) | (apply Part.nilc))) ?_)
        injection hP with hP
        injection hP with h1 h2
        subst h1
        subst h2
        exact ⟨_, .ret hN4 .nil, rfl⟩
      · try simp only [List.cons_append, List.nil_append] at hH
        subst hH
        try dsimp only [cond_true, cond_false, Bool.true_or, Bool.false_or] at hP
        refine SPL_y (y_not_t rfl) rfl ?_
        refine SPL_nil ?_
        refine thenP_n ?_
        refine SP_cond_f rfl ?_
        refine SP_skip ?_
        refine thenP_n ?_
        refine SP_seq ?_
        refine SP_region ?_
        refine SPL_y (y_move rfl) rfl ?_
        refine SPL_y (y_move rfl) rfl ?_
        refine SPL_y (y_move rfl) rfl ?_
        refine SPL_y (y_sub rfl rfl (by omega)) rfl ?_
        obtain ⟨t9, s9, hq9, hP⟩ := bnd2 hP
        refine SPL_one rfl (SP1_call (hr.expr _ _ _ _ _ hq9) Tryz.call190 rfl rfl (by repeat (first | exact Part.nil _ | (apply Part.cons; (first | exact P0 | exact P1 | exact P2 | exact P3 | exact P4 | exact P5 | exact P6 | exact P7 | exact P8 | exact P9 | exact P10 | exact P11 | exact P12 | exact P13 | exact P14 | exact P15 | exact P16 | exact P17 | exact P18 | exact P19 | exact P20 | exact P21 | exact P22 | exact P23)) | (apply Part.flat; simp only [List.cons_append, List.nil_append]) | (apply Part.nilc))) ?_)
        rintro v9 post H' ⟨sn9, hN9, rfl⟩ hH
        rcases hN9.two with ⟨rfl, rfl, rfl⟩ | ⟨hn9, nb9, rfl⟩
        · try simp only [List.cons_append, List.nil_append] at hH
          subst hH
          try dsimp only [cond_true, cond_false, Bool.true_or, Bool.false_or] at hP
          refine SPL_y (y_nil rfl) rfl ?_
          refine SPL_y (y_fa fld_382_2 rfl) rfl ?_
          refine SPL_one rfl (SP1_store Tryz.sizeOf292 rfl rfl rfl (by first | exact U0 | exact U1 | exact U2 | exact U3 | exact U4 | exact U5 | exact U6 | exact U7 | exact U8 | exact U9 | exact U10 | exact U11 | exact U12 | exact U13 | exact U14 | exact U15 | exact U16 | exact U17 | exact U18 | exact U19 | exact U20 | exact U21 | exact U22 | exact U23) (by rfl) ?_)
          refine SPL_nil ?_
          refine thenP_n ?_
          refine SP_seq ?_
          refine SP_seq ?_
          refine SP_region ?_
          refine SPL_y (y_move rfl) rfl ?_
          refine SPL_y (y_nil rfl) rfl ?_
          refine SPL_y (y_fa fld_382_2 rfl) rfl ?_
          refine SPL_y (y_load Tryz.isAgg292 rfl (by repeat (first | exact Cell.amid hpre rfl | exact Cell.head rfl | apply Cell.tail))) rfl ?_
          refine SPL_ifn (y_nE Tryz.underlying292 rfl (by assumption)) rfl ?_ ?_
          · intro h10_4
            first | rw [if_neg h10_4] at hP | rw [if_pos (Decidable.not_not.1 h10_4)] at hP | skip
            exact absurd rfl h10_4
          intro h10_4
          first | rw [if_pos h10_4] at hP | rw [if_neg h10_4] at hP | skip
          refine SPL_nil ?_
          refine thenP_n ?_
          refine SP_cond_t rfl ?_
          refine SP_seq ?_
          refine SP_region ?_
          refine SPL_y (y_assign rfl) rfl ?_
          refine SPL_nil ?_
          refine thenP_n ?_
          refine SP_ret ?_
          refine thenP_ret (bodyP_ret (H' := [x.gs, x.b _, x.st, []]) (Res1 rfl rfl) (by repeat (first | exact Part.nil _ | (apply Part.cons; (first | exact P0 | exact P1 | exact P2 | exact P3 | exact P4 | exact P5 | exact P6 | exact P7 | exact P8 | exact P9 | exact P10 | exact P11 | exact P12 | exact P13 | exact P14 | exact P15 | exact P16 | exact P17 | exact P18 | exact P19 | exact P20 | exact P21 | exact P22 | exact P23)) | (apply Part.flat; simp only [List.cons_append, List.nil_append]) | (apply Part.nilc))) ?_)
          injection hP with hP
          injection hP with h1 h2
          subst h1
          subst h2
          exact ⟨[], .nil, rfl⟩
        · try simp only [List.cons_append, List.nil_append] at hH
          subst hH
          try dsimp only [cond_true, cond_false, Bool.true_or, Bool.false_or] at hP
          refine SPL_y (y_nil rfl) rfl ?_
          refine SPL_y (y_fa fld_382_2 rfl) rfl ?_
          refine SPL_one rfl (SP1_store Tryz.sizeOf292 rfl rfl rfl (by first | exact U0 | exact U1 | exact U2 | exact U3 | exact U4 | exact U5 | exact U6 | exact U7 | exact U8 | exact U9 | exact U10 | exact U11 | exact U12 | exact U13 | exact U14 | exact U15 | exact U16 | exact U17 | exact U18 | exact U19 | exact U20 | exact U21 | exact U22 | exact U23) (by rfl) ?_)
          refine SPL_nil ?_
          refine thenP_n ?_
          refine SP_seq ?_
          refine SP_seq ?_
          refine SP_region ?_
          refine SPL_y (y_move rfl) rfl ?_
          refine SPL_y (y_nil rfl) rfl ?_
          refine SPL_y (y_fa fld_382_2 rfl) rfl ?_
          refine SPL_y (y_load Tryz.isAgg292 rfl (by repeat (first | exact Cell.amid hpre rfl | exact Cell.head rfl | apply Cell.tail))) rfl ?_
          refine SPL_if (y_nE Tryz.underlying292 rfl (by assumption)) rfl ?_ ?_
          · intro h10_4
            first | rw [if_pos h10_4] at hP | rw [if_neg h10_4] at hP | skip
            rw [hn9] at h10_4
            cases h10_4
          intro h10_4
          first | rw [if_neg h10_4] at hP | rw [if_pos (Decidable.not_not.1 h10_4)] at hP | skip
          refine SPL_nil ?_
          refine thenP_n ?_
          refine SP_cond_f rfl ?_
          refine SP_skip ?_
          refine thenP_n ?_
          refine SP_seq ?_
          refine SP_region ?_
          refine SPL_y (y_move rfl) rfl ?_
          refine SPL_y (y_mki Tryz.underlying233 rfl rfl) rfl ?_
          refine SPL_y (y_assign rfl) rfl ?_
          refine SPL_nil ?_
          refine thenP_n ?_
          refine SP_ret ?_
          refine bodyP_ret (H' := [x.gs, x.b s9, x.st, List.flatten [blk b10 382 [I at_, .iface t4.ty (pt nb4), .iface t9.ty (pt nb9)], sn4, sn9]]) (Res1 rfl rfl) (by repeat (first | exact Part.nil _ | (apply Part.cons; (first | exact P0 | exact P1 | exact P2 | exact P3 | exact P4 | exact P5 | exact P6 | exact P7 | exact P8 | exact P9 | exact P10 | exact P11 | exact P12 | exact P13 | exact P14 | exact P15 | exact P16 | exact P17 | exact P18 | exact P19 | exact P20 | exact P21 | exact P22 | exact P23)) | (apply Part.flat; simp only [List.cons_append, List.nil_append]) | (apply Part.nilc))) ?_
          injection hP with hP
          injection hP with h1 h2
          subst h1
          subst h2
          exact ⟨_, .ret hN4 hN9, rfl⟩
  · try simp only [List.cons_append, List.nil_append] at hH
    subst hH
    try dsimp only [cond_true, cond_false, Bool.true_or, Bool.false_or] at hP
    refine SPL_nil ?_
    refine thenP_n ?_
    refine SP_cond_t rfl ?_
    refine SP_seq ?_
    refine SP_region ?_
    refine SPL_y (y_move rfl) rfl ?_
    refine SPL_y (y_mki Tryz.underlying233 rfl rfl) rfl ?_
    refine SPL_y (y_assign rfl) rfl ?_
    refine SPL_nil ?_
    refine thenP_n ?_
    refine SP_ret ?_
    refine thenP_ret (bodyP_ret (H' := [x.gs, x.b s, x.st, List.flatten [blk b10 382 [I at_, .nilIface, .nilIface], [], []]]) (Res1 rfl rfl) (by repeat (first | exact Part.nil _ | (apply Part.cons; (first | exact P0 | exact P1 | exact P2 | exact P3 | exact P4 | exact P5 | exact P6 | exact P7 | exact P8 | exact P9 | exact P10 | exact P11 | exact P12 | exact P13 | exact P14 | exact P15 | exact P16 | exact P17 | exact P18 | exact P19 | exact P20 | exact P21 | exact P22 | exact P23)) | (apply Part.flat; simp only [List.cons_append, List.nil_append]) | (apply Part.nilc))) ?_)
    injection hP with hP
    injection hP with h1 h2
    subst h1
    subst h2
    exact ⟨_, .ret .nil .nil, rfl⟩

theorem pr_body (x : PX) (rc : Rec) (hr : RecOk x rc) {room extra : Int} (he : 0 ≤ extra ∧ extra ≤ 100) {s s' : PS} {r : Option (List T)} (hP : bodyP_ x.toks rc room extra s = some (r, s')) : Spec Tryz.prog 191 [pt x.p, I room, I extra] [x.gs, x.b s, x.st] (Ret (lsOk x r s')) := by
  unfold bodyP_ at hP
  obtain ⟨hrm, hP⟩ := grd hP
  refine Spec_enter Tryz.func191 rfl Tryz.ntmps191 rfl ?_
  show SP _ _ _ _ _ [(0, _), (1, _), (2, _)] _
  refine SP_seq ?_
  refine SP_region ?_
  refine SPL_y (y_assign rfl) rfl ?_
  refine SPL_y (y_assign rfl) rfl ?_
  refine SPL_nil ?_
  refine thenP_n ?_
  refine SP_seq ?_
  refine SP_seq ?_
  refine SP_region ?_
  refine SPL_y (y_move rfl) rfl ?_
  obtain ⟨b1, s1, hq1, hP⟩ := bnd2 hP
  refine SPL_one rfl (SP1_call (pr_expect x hq1) Tryz.call242 rfl rfl (by repeat (first | exact Part.nil _ | (apply Part.cons; (first | exact P0 | exact P1 | exact P2 | exact P3 | exact P4 | exact P5 | exact P6 | exact P7 | exact P8 | exact P9 | exact P10 | exact P11 | exact P12 | exact P13 | exact P14 | exact P15 | exact P16 | exact P17 | exact P18 | exact P19 | exact P20 | exact P21 | exact P22 | exact P23)) | (apply Part.flat; simp only [List.cons_append, List.nil_append]) | (apply Part.nilc))) ?_)
  rintro v post H' ⟨rfl, rfl⟩ hH
  rcases b1 with _ | _
  · try simp only [List.cons_append, List.nil_append] at hH
    subst hH
    try dsimp only [cond_true, cond_false, Bool.true_or, Bool.false_or] at hP
    refine SPL_y (y_not_f rfl) rfl ?_
    refine SPL_nil ?_
    refine thenP_n ?_
    refine SP_cond_t rfl ?_
    refine SP_seq ?_
    refine SP_region ?_
    refine SPL_y (y_assign rfl) rfl ?_
    refine SPL_y (y_assign rfl) rfl ?_
    refine SPL_nil ?_
    refine thenP_n ?_
    refine SP_ret ?_
    refine thenP_ret (bodyP_ret (H' := [x.gs, x.b _, x.st]) (Res2 rfl rfl rfl) (by repeat (first | exact Part.nil _ | (apply Part.cons; (first | exact P0 | exact P1 | exact P2 | exact P3 | exact P4 | exact P5 | exact P6 | exact P7 | exact P8 | exact P9 | exact P10 | exact P11 | exact P12 | exact P13 | exact P14 | exact P15 | exact P16 | exact P17 | exact P18 | exact P19 | exact P20 | exact P21 | exact P22 | exact P23)) | (apply Part.flat; simp only [List.cons_append, List.nil_append]) | (apply Part.nilc))) ?_)
    injection hP with hP
    injection hP with h1 h2
    subst h1
    subst h2
    exact ⟨rfl, rfl⟩
  · try simp only [List.cons_append, List.nil_append] at hH
    subst hH
    try dsimp only [cond_true, cond_false, Bool.true_or, Bool.false_or] at hP
    refine SPL_y (y_not_t rfl) rfl ?_
    refine SPL_nil ?_
    refine thenP_n ?_
    refine SP_cond_f rfl ?_
    refine SP_skip ?_
    refine thenP_n ?_
    refine SP_seq ?_
    obtain ⟨hb1, hP⟩ := grd hP
    obtain ⟨hb2, hP⟩ := grd hP
    refine SP_region ?_
    refine SPL_y (y_move rfl) rfl ?_
    refine SPL_y (y_nil rfl) rfl ?_
    refine SPL_y (y_fa fld_170_3 rfl) rfl ?_
    refine SPL_y (y_fa fld_168_0 rfl) rfl ?_
    refine SPL_y (y_load Tryz.isAgg3 rfl (by repeat (first | exact Cell.amid hpre rfl | exact Cell.head rfl | apply Cell.tail))) rfl ?_
    refine SPL_y (y_move rfl) rfl ?_
    refine SPL_y (y_add rfl rfl (by omega)) rfl ?_
    refine SPL_y (y_nil rfl) rfl ?_
    refine SPL_y (y_fa fld_170_3 rfl) rfl ?_
    refine SPL_y (y_fa fld_168_0 rfl) rfl ?_
    refine SPL_one rfl (SP1_store Tryz.sizeOf3 rfl rfl rfl (by first | exact U0 | exact U1 | exact U2 | exact U3 | exact U4 | exact U5 | exact U6 | exact U7 | exact U8 | exact U9 | exact U10 | exact U11 | exact U12 | exact U13 | exact U14 | exact U15 | exact U16 | exact U17 | exact U18 | exact U19 | exact U20 | exact U21 | exact U22 | exact U23) (by rfl) ?_)
    refine SPL_nil ?_
    refine thenP_n ?_
    refine SP_seq ?_
    refine SP_region ?_
    refine SPL_y (y_move rfl) rfl ?_
    refine SPL_y (y_nil rfl) rfl ?_
    refine SPL_y (y_fa fld_170_3 rfl) rfl ?_
    refine SPL_y (y_fa fld_168_1 rfl) rfl ?_
    refine SPL_y (y_load Tryz.isAgg3 rfl (by repeat (first | exact Cell.amid hpre rfl | exact Cell.head rfl | apply Cell.tail))) rfl ?_
    refine SPL_y (y_add rfl rfl (by omega)) rfl ?_
    refine SPL_y (y_nil rfl) rfl ?_
    refine SPL_y (y_fa fld_170_3 rfl) rfl ?_
    refine SPL_y (y_fa fld_168_1 rfl) rfl ?_
    refine SPL_one rfl (SP1_store Tryz.sizeOf3 rfl rfl rfl (by first | exact U0 | exact U1 | exact U2 | exact U3 | exact U4 | exact U5 | exact U6 | exact U7 | exact U8 | exact U9 | exact U10 | exact U11 | exact U12 | exact U13 | exact U14 | exact U15 | exact U16 | exact U17 | exact U18 | exact U19 | exact U20 | exact U21 | exact U22 | exact U23) (by rfl) ?_)
    refine SPL_nil ?_
    refine thenP_n ?_
    refine SP_seq ?_
    refine SP_region ?_
    refine SPL_y (y_move rfl) rfl ?_
    refine SPL_y (y_move rfl) rfl ?_
    refine SPL_y (y_sub rfl rfl (by omega)) rfl ?_
    obtain ⟨r5, s5, hq5, hP⟩ := bnd2 hP
    refine SPL_one rfl (SP1_call (hr.block _ _ _ _ hq5) Tryz.call69 rfl rfl (by repeat (first | exact Part.nil _ | (apply Part.cons; (first | exact P0 | exact P1 | exact P2 | exact P3 | exact P4 | exact P5 | exact P6 | exact P7 | exact P8 | exact P9 | exact P10 | exact P11 | exact P12 | exact P13 | exact P14 | exact P15 | exact P16 | exact P17 | exact P18 | exact P19 | exact P20 | exact P21 | exact P22 | exact P23)) | (apply Part.flat; simp only [List.cons_append, List.nil_append]) | (apply Part.nilc))) ?_)
    rintro v post H' hL hH
    rcases r5 with _ | l5
    · obtain ⟨rfl, rfl⟩ := hL
      try simp only [List.cons_append, List.nil_append] at hH
      subst hH
      try dsimp only [cond_true, cond_false, Bool.true_or, Bool.false_or] at hP
      refine SPL_y (y_move rfl) rfl ?_
      refine SPL_y (y_ext rfl rfl) rfl ?_
      refine SPL_y (y_ext rfl rfl) rfl ?_
      refine SPL_y (y_assign rfl) rfl ?_
      refine SPL_y (y_assign rfl) rfl ?_
      refine SPL_nil ?_
      refine thenP_n ?_
      refine SP_seq ?_
      refine SP_seq ?_
      refine SP_region ?_
      refine SPL_y (y_move rfl) rfl ?_
      refine SPL_y (y_not_f rfl) rfl ?_
      refine SPL_y (y_move rfl) rfl ?_
      refine SPL_gn rfl rfl rfl rfl ?_
      refine SPL_gn rfl rfl rfl rfl ?_
      refine SPL_gn rfl rfl rfl rfl ?_
      refine SPL_y (y_pick_t rfl rfl) rfl ?_
      refine SPL_nil ?_
      refine thenP_n ?_
      refine SP_cond_t rfl ?_
      refine SP_seq ?_
      refine SP_region ?_
      refine SPL_y (y_assign rfl) rfl ?_
      refine SPL_y (y_assign rfl) rfl ?_
      refine SPL_nil ?_
      refine thenP_n ?_
      refine SP_ret ?_
      refine thenP_ret (bodyP_ret (H' := [x.gs, x.b _, x.st]) (Res2 rfl rfl rfl) (by repeat (first | exact Part.nil _ | (apply Part.cons; (first | exact P0 | exact P1 | exact P2 | exact P3 | exact P4 | exact P5 | exact P6 | exact P7 | exact P8 | exact P9 | exact P10 | exact P11 | exact P12 | exact P13 | exact P14 | exact P15 | exact P16 | exact P17 | exact P18 | exact P19 | exact P20 | exact P21 | exact P22 | exact P23)) | (apply Part.flat; simp only [List.cons_append, List.nil_append]) | (apply Part.nilc))) ?_)
      injection hP with hP
      injection hP with h1 h2
      subst h1
      subst h2
      exact ⟨rfl, rfl⟩
    · obtain ⟨la5, lm5, lc5, ls5, hL5, rfl, rfl⟩ := hL
      try simp only [List.cons_append, List.nil_append] at hH
      subst hH
      try dsimp only [cond_true, cond_false, Bool.true_or, Bool.false_or] at hP
      refine SPL_y (y_move rfl) rfl ?_
      refine SPL_y (y_ext rfl rfl) rfl ?_
      refine SPL_y (y_ext rfl rfl) rfl ?_
      refine SPL_y (y_assign rfl) rfl ?_
      refine SPL_y (y_assign rfl) rfl ?_
      refine SPL_nil ?_
      refine thenP_n ?_
      refine SP_seq ?_
      refine SP_seq ?_
      refine SP_region ?_
      refine SPL_y (y_move rfl) rfl ?_
      refine SPL_y (y_not_t rfl) rfl ?_
      refine SPL_y (y_move rfl) rfl ?_
      refine SPL_gy rfl rfl ?_
      refine SPL_y (y_move rfl) rfl ?_
      refine SPL_gy rfl rfl ?_
      obtain ⟨b6, s6, hq6, hP⟩ := bnd2 hP
      refine SPL_one rfl (SP1_call (pr_expect x hq6) Tryz.call242 rfl rfl (by repeat (first | exact Part.nil _ | (apply Part.cons; (first | exact P0 | exact P1 | exact P2 | exact P3 | exact P4 | exact P5 | exact P6 | exact P7 | exact P8 | exact P9 | exact P10 | exact P11 | exact P12 | exact P13 | exact P14 | exact P15 | exact P16 | exact P17 | exact P18 | exact P19 | exact P20 | exact P21 | exact P22 | exact P23)) | (apply Part.flat; simp only [List.cons_append, List.nil_append]) | (apply Part.nilc))) ?_)
      rintro v post H' ⟨rfl, rfl⟩ hH
      rcases b6 with _ | _
      · try simp only [List.cons_append, List.nil_append] at hH
        subst hH
        try dsimp only [cond_true, cond_false, Bool.true_or, Bool.false_or] at hP
        refine SPL_gy rfl rfl ?_
        refine SPL_y (y_not_f rfl) rfl ?_
        refine SPL_y (y_pick_f rfl rfl) rfl ?_
        refine SPL_nil ?_
        refine thenP_n ?_
        refine SP_cond_t rfl ?_
        refine SP_seq ?_
        refine SP_region ?_
        refine SPL_y (y_assign rfl) rfl ?_
        refine SPL_y (y_assign rfl) rfl ?_
        refine SPL_nil ?_
        refine thenP_n ?_
        refine SP_ret ?_
        refine thenP_ret (bodyP_ret (H' := [x.gs, x.b _, x.st]) (Res2 rfl rfl rfl) (by repeat (first | exact Part.nil _ | (apply Part.cons; (first | exact P0 | exact P1 | exact P2 | exact P3 | exact P4 | exact P5 | exact P6 | exact P7 | exact P8 | exact P9 | exact P10 | exact P11 | exact P12 | exact P13 | exact P14 | exact P15 | exact P16 | exact P17 | exact P18 | exact P19 | exact P20 | exact P21 | exact P22 | exact P23)) | (apply Part.flat; simp only [List.cons_append, List.nil_append]) | (apply Part.nilc))) ?_)
        injection hP with hP
        injection hP with h1 h2
        subst h1
        subst h2
        exact ⟨rfl, rfl⟩
      · try simp only [List.cons_append, List.nil_append] at hH
        subst hH
        try dsimp only [cond_true, cond_false, Bool.true_or, Bool.false_or] at hP
        refine SPL_gy rfl rfl ?_
        refine SPL_y (y_not_t rfl) rfl ?_
        refine SPL_y (y_pick_f rfl rfl) rfl ?_
        refine SPL_nil ?_
        refine thenP_n ?_
        refine SP_cond_f rfl ?_
        refine SP_skip ?_
        refine thenP_n ?_
        refine SP_seq ?_
        obtain ⟨hb3, hP⟩ := grd hP
        obtain ⟨hb4, hP⟩ := grd hP
        refine SP_region ?_
        refine SPL_y (y_move rfl) rfl ?_
        refine SPL_y (y_nil rfl) rfl ?_
        refine SPL_y (y_fa fld_170_3 rfl) rfl ?_
        refine SPL_y (y_fa fld_168_1 rfl) rfl ?_
        refine SPL_y (y_load Tryz.isAgg3 rfl (by repeat (first | exact Cell.amid hpre rfl | exact Cell.head rfl | apply Cell.tail))) rfl ?_
        refine SPL_y (y_sub rfl rfl (by omega)) rfl ?_
        refine SPL_y (y_nil rfl) rfl ?_
        refine SPL_y (y_fa fld_170_3 rfl) rfl ?_
        refine SPL_y (y_fa fld_168_1 rfl) rfl ?_
        refine SPL_one rfl (SP1_store Tryz.sizeOf3 rfl rfl rfl (by first | exact U0 | exact U1 | exact U2 | exact U3 | exact U4 | exact U5 | exact U6 | exact U7 | exact U8 | exact U9 | exact U10 | exact U11 | exact U12 | exact U13 | exact U14 | exact U15 | exact U16 | exact U17 | exact U18 | exact U19 | exact U20 | exact U21 | exact U22 | exact U23) (by rfl) ?_)
        refine SPL_nil ?_
        refine thenP_n ?_
        refine SP_seq ?_
        refine SP_region ?_
        refine SPL_y (y_move rfl) rfl ?_
        refine SPL_y (y_nil rfl) rfl ?_
        refine SPL_y (y_fa fld_170_3 rfl) rfl ?_
        refine SPL_y (y_fa fld_168_0 rfl) rfl ?_
        refine SPL_y (y_load Tryz.isAgg3 rfl (by repeat (first | exact Cell.amid hpre rfl | exact Cell.head rfl | apply Cell.tail))) rfl ?_
        refine SPL_y (y_move rfl) rfl ?_
        refine SPL_y (y_sub rfl rfl (by omega)) rfl ?_
        refine SPL_y (y_nil rfl) rfl ?_
        refine SPL_y (y_fa fld_170_3 rfl) rfl ?_
        refine SPL_y (y_fa fld_168_0 rfl) rfl ?_
        refine SPL_one rfl (SP1_store Tryz.sizeOf3 rfl rfl rfl (by first | exact U0 | exact U1 | exact U2 | exact U3 | exact U4 | exact U5 | exact U6 | exact U7 | exact U8 | exact U9 | exact U10 | exact U11 | exact U12 | exact U13 | exact U14 | exact U15 | exact U16 | exact U17 | exact U18 | exact U19 | exact U20 | exact U21 | exact U22 | exact U23) (by rfl) ?_)
        refine SPL_nil ?_
        refine thenP_n ?_
        refine SP_seq ?_
        refine SP_region ?_
        refine SPL_y (y_move rfl) rfl ?_
        refine SPL_y (y_assign rfl) rfl ?_
        refine SPL_y (y_assign rfl) rfl ?_
        refine SPL_nil ?_
        refine thenP_n ?_
        refine SP_ret ?_
        refine bodyP_ret (H' := [x.gs, x.b { s6 with alive := s6.alive - extra, loops := s6.loops - 1 }, x.st, ls5]) (Res2 rfl rfl rfl) (by repeat (first | exact Part.nil _ | (apply Part.cons; (first | exact P0 | exact P1 | exact P2 | exact P3 | exact P4 | exact P5 | exact P6 | exact P7 | exact P8 | exact P9 | exact P10 | exact P11 | exact P12 | exact P13 | exact P14 | exact P15 | exact P16 | exact P17 | exact P18 | exact P19 | exact P20 | exact P21 | exact P22 | exact P23)) | (apply Part.flat; simp only [List.cons_append, List.nil_append]) | (apply Part.nilc))) ?_
        injection hP with hP
        injection hP with h1 h2
        subst h1
        subst h2
        exact ⟨_, _, _, _, hL5, rfl, rfl⟩

theorem pr_local (x : PX) (rc : Rec) (hr : RecOk x rc) {n : Nat} {room : Int} {s s' : PS} {t : T} (hP : localP x.toks rc n room s = some (t, s')) : Spec Tryz.prog 187 [pt x.p, I room] [x.gs, x.b s, x.st] (Ret (ndOk x t s')) := by
  unfold localP at hP
  obtain ⟨hrm, hP⟩ := grd hP
  refine Spec_enter Tryz.func187 rfl Tryz.ntmps187 rfl ?_
  show SP _ _ _ _ _ [(0, _), (1, _)] _
  refine SP_seq ?_
  refine SP_region ?_
  refine SPL_y (y_assign rfl) rfl ?_
  refine SPL_nil ?_
  refine thenP_n ?_
  refine SP_seq ?_
  refine SP_seq ?_
  refine SP_region ?_
  refine SPL_y (y_move rfl) rfl ?_
  refine SPL_y (y_nil rfl) rfl ?_
  refine SPL_y (y_fa fld_170_2 rfl) rfl ?_
  refine SPL_y (y_fa fld_156_0 rfl) rfl ?_
  refine SPL_y (y_load Tryz.isAgg154 rfl (by repeat (first | exact Cell.amid hpre rfl | exact Cell.head rfl | apply Cell.tail))) rfl ?_
  refine SPL_if (y_eql rfl rfl) rfl ?_ ?_
  · intro h1_5
    first | rw [if_pos h1_5] at hP | rw [if_neg h1_5] at hP | skip
    refine SPL_nil ?_
    refine thenP_n ?_
    refine SP_cond_t rfl ?_
    refine SP_seq ?_
    refine SP_seq ?_
    refine SP_region ?_
    refine SPL_y (y_move rfl) rfl ?_
    obtain ⟨b2, s2, hq2, hP⟩ := bnd2 hP
    refine SPL_one rfl (SP1_call (pr_function x hq2) Tryz.call238 rfl rfl (by repeat (first | exact Part.nil _ | (apply Part.cons; (first | exact P0 | exact P1 | exact P2 | exact P3 | exact P4 | exact P5 | exact P6 | exact P7 | exact P8 | exact P9 | exact P10 | exact P11 | exact P12 | exact P13 | exact P14 | exact P15 | exact P16 | exact P17 | exact P18 | exact P19 | exact P20 | exact P21 | exact P22 | exact P23)) | (apply Part.flat; simp only [List.cons_append, List.nil_append]) | (apply Part.nilc))) ?_)
    rintro v post H' ⟨rfl, rfl⟩ hH
    rcases b2 with _ | _
    · try simp only [List.cons_append, List.nil_append] at hH
      subst hH
      try dsimp only [cond_true, cond_false, Bool.true_or, Bool.false_or] at hP
      refine SPL_y (y_not_f rfl) rfl ?_
      refine SPL_nil ?_
      refine thenP_n ?_
      refine SP_cond_t rfl ?_
      refine SP_seq ?_
      refine SP_region ?_
      refine SPL_y (y_assign rfl) rfl ?_
      refine SPL_nil ?_
      refine thenP_n ?_
      refine SP_ret ?_
      refine thenP_ret (thenP_ret (bodyP_ret (H' := [x.gs, x.b _, x.st, []]) (Res1 rfl rfl) (by repeat (first | exact Part.nil _ | (apply Part.cons; (first | exact P0 | exact P1 | exact P2 | exact P3 | exact P4 | exact P5 | exact P6 | exact P7 | exact P8 | exact P9 | exact P10 | exact P11 | exact P12 | exact P13 | exact P14 | exact P15 | exact P16 | exact P17 | exact P18 | exact P19 | exact P20 | exact P21 | exact P22 | exact P23)) | (apply Part.flat; simp only [List.cons_append, List.nil_append]) | (apply Part.nilc))) ?_))
      injection hP with hP
      injection hP with h1 h2
      subst h1
      subst h2
      exact ⟨[], .nil, rfl⟩
    · try simp only [List.cons_append, List.nil_append] at hH
      subst hH
      try dsimp only [cond_true, cond_false, Bool.true_or, Bool.false_or] at hP
      refine SPL_y (y_not_t rfl) rfl ?_
      refine SPL_nil ?_
      refine thenP_n ?_
      refine SP_cond_f rfl ?_
      refine SP_skip ?_
      refine thenP_n ?_
      refine SP_seq ?_
      refine SP_region ?_
      refine SPL_y (y_move rfl) rfl ?_
      obtain ⟨r4, s4, hq4, hP⟩ := bnd2 hP
      refine SPL_one rfl (SP1_call (pr_name x (by omega) hq4) Tryz.call239 rfl rfl (by repeat (first | exact Part.nil _ | (apply Part.cons; (first | exact P0 | exact P1 | exact P2 | exact P3 | exact P4 | exact P5 | exact P6 | exact P7 | exact P8 | exact P9 | exact P10 | exact P11 | exact P12 | exact P13 | exact P14 | exact P15 | exact P16 | exact P17 | exact P18 | exact P19 | exact P20 | exact P21 | exact P22 | exact P23)) | (apply Part.flat; simp only [List.cons_append, List.nil_append]) | (apply Part.nilc))) ?_)
      rintro v post H' hL hH
      rcases r4 with _ | ⟨na4, nt4⟩
      · obtain ⟨rfl, rfl⟩ := hL
        try simp only [List.cons_append, List.nil_append] at hH
        subst hH
        try dsimp only [cond_true, cond_false, Bool.true_or, Bool.false_or] at hP
        refine SPL_y (y_assign rfl) rfl ?_
        refine SPL_nil ?_
        refine thenP_n ?_
        refine SP_seq ?_
        refine SP_seq ?_
        refine SP_region ?_
        refine SPL_y (y_move rfl) rfl ?_
        refine SPL_y (y_peql_F Tryz.underlying307 rfl rfl) rfl ?_
        refine SPL_nil ?_
        refine thenP_n ?_
        refine SP_cond_t rfl ?_
        refine SP_seq ?_
        refine SP_region ?_
        refine SPL_y (y_assign rfl) rfl ?_
        refine SPL_nil ?_
        refine thenP_n ?_
        refine SP_ret ?_
        refine thenP_ret (thenP_ret (bodyP_ret (H' := [x.gs, x.b _, x.st, []]) (Res1 rfl rfl) (by repeat (first | exact Part.nil _ | (apply Part.cons; (first | exact P0 | exact P1 | exact P2 | exact P3 | exact P4 | exact P5 | exact P6 | exact P7 | exact P8 | exact P9 | exact P10 | exact P11 | exact P12 | exact P13 | exact P14 | exact P15 | exact P16 | exact P17 | exact P18 | exact P19 | exact P20 | exact P21 | exact P22 | exact P23)) | (apply Part.flat; simp only [List.cons_append, List.nil_append]) | (apply Part.nilc))) ?_))
        injection hP with hP
        injection hP with h1 h2
        subst h1
        subst h2
        exact ⟨[], .nil, rfl⟩
      · obtain ⟨nb4, rfl, rfl⟩ := hL
        try simp only [List.cons_append, List.nil_append] at hH
        subst hH
        try dsimp only [cond_true, cond_false, Bool.true_or, Bool.false_or] at hP
        refine SPL_y (y_assign rfl) rfl ?_
        refine SPL_nil ?_
        refine thenP_n ?_
        refine SP_seq ?_
        refine SP_seq ?_
        refine SP_region ?_
        refine SPL_y (y_move rfl) rfl ?_
        refine SPL_y (y_peql_T Tryz.underlying307 rfl rfl) rfl ?_
        refine SPL_nil ?_
        refine thenP_n ?_
        refine SP_cond_f rfl ?_
        refine SP_skip ?_
        refine thenP_n ?_
        refine SP_seq ?_
        obtain ⟨hb, hP⟩ := grd hP
        refine SP_region ?_
        refine SPL_y (y_move rfl) rfl ?_
        refine SPL_y (y_nil rfl) rfl ?_
        refine SPL_y (y_fa fld_170_3 rfl) rfl ?_
        refine SPL_y (y_fa fld_168_0 rfl) rfl ?_
        refine SPL_y (y_load Tryz.isAgg3 rfl (by repeat (first | exact Cell.amid hpre rfl | exact Cell.head rfl | apply Cell.tail))) rfl ?_
        refine SPL_y (y_add rfl rfl (by omega)) rfl ?_
        refine SPL_y (y_nil rfl) rfl ?_
        refine SPL_y (y_fa fld_170_3 rfl) rfl ?_
        refine SPL_y (y_fa fld_168_0 rfl) rfl ?_
        refine SPL_one rfl (SP1_store Tryz.sizeOf3 rfl rfl rfl (by first | exact U0 | exact U1 | exact U2 | exact U3 | exact U4 | exact U5 | exact U6 | exact U7 | exact U8 | exact U9 | exact U10 | exact U11 | exact U12 | exact U13 | exact U14 | exact U15 | exact U16 | exact U17 | exact U18 | exact U19 | exact U20 | exact U21 | exact U22 | exact U23) (by rfl) ?_)
        refine SPL_nil ?_
        refine thenP_n ?_
        refine SP_seq ?_
        refine SP_region ?_
        refine SPL_y (y_move rfl) rfl ?_
        refine SPL_y (y_move rfl) rfl ?_
        refine SPL_y (y_move rfl) rfl ?_
        refine SPL_y (y_nil rfl) rfl ?_
        refine SPL_y (y_fa fld_358_0 rfl) rfl ?_
        refine SPL_y (y_load Tryz.isAgg3 rfl (by repeat (first | exact Cell.amid hpre rfl | exact Cell.head rfl | apply Cell.tail))) rfl ?_
        obtain ⟨t8, s8, hq8, hP⟩ := bnd2 hP
        refine SPL_one rfl (SP1_call (pr_literal x rc hr hq8) Tryz.call240 rfl rfl (by repeat (first | exact Part.nil _ | (apply Part.cons; (first | exact P0 | exact P1 | exact P2 | exact P3 | exact P4 | exact P5 | exact P6 | exact P7 | exact P8 | exact P9 | exact P10 | exact P11 | exact P12 | exact P13 | exact P14 | exact P15 | exact P16 | exact P17 | exact P18 | exact P19 | exact P20 | exact P21 | exact P22 | exact P23)) | (apply Part.flat; simp only [List.cons_append, List.nil_append]) | (apply Part.nilc))) ?_)
        rintro v post H' hL hH
        rcases hL with ⟨hn8, rfl, rfl⟩ | ⟨hn8, nb8, sn8, rfl, hN8, rfl⟩
        · rw [if_pos hn8] at hP
          try simp only [List.cons_append, List.nil_append] at hH
          subst hH
          try dsimp only [cond_true, cond_false, Bool.true_or, Bool.false_or] at hP
          refine SPL_y (y_assign rfl) rfl ?_
          refine SPL_nil ?_
          refine thenP_n ?_
          refine SP_seq ?_
          refine SP_seq ?_
          refine SP_region ?_
          refine SPL_y (y_move rfl) rfl ?_
          refine SPL_y (y_peql_F Tryz.underlying355 rfl rfl) rfl ?_
          refine SPL_nil ?_
          refine thenP_n ?_
          refine SP_cond_t rfl ?_
          refine SP_seq ?_
          refine SP_region ?_
          refine SPL_y (y_assign rfl) rfl ?_
          refine SPL_nil ?_
          refine thenP_n ?_
          refine SP_ret ?_
          refine thenP_ret (thenP_ret (bodyP_ret (H' := [x.gs, x.b _, x.st, []]) (Res1 rfl rfl) (by repeat (first | exact Part.nil _ | (apply Part.cons; (first | exact P0 | exact P1 | exact P2 | exact P3 | exact P4 | exact P5 | exact P6 | exact P7 | exact P8 | exact P9 | exact P10 | exact P11 | exact P12 | exact P13 | exact P14 | exact P15 | exact P16 | exact P17 | exact P18 | exact P19 | exact P20 | exact P21 | exact P22 | exact P23)) | (apply Part.flat; simp only [List.cons_append, List.nil_append]) | (apply Part.nilc))) ?_))
          injection hP with hP
          injection hP with h1 h2
          subst h1
          subst h2
          exact ⟨[], .nil, rfl⟩
        · rw [if_neg (by rw [hn8]; decide)] at hP
          try simp only [List.cons_append, List.nil_append] at hH
          subst hH
          try dsimp only [cond_true, cond_false, Bool.true_or, Bool.false_or] at hP
          refine SPL_y (y_assign rfl) rfl ?_
          refine SPL_nil ?_
          refine thenP_n ?_
          refine SP_seq ?_
          refine SP_seq ?_
          refine SP_region ?_
          refine SPL_y (y_move rfl) rfl ?_
          refine SPL_y (y_peql_T Tryz.underlying355 rfl rfl) rfl ?_
          refine SPL_nil ?_
          refine thenP_n ?_
          refine SP_cond_f rfl ?_
          refine SP_skip ?_
          refine thenP_n ?_
          refine SP_seq ?_
          refine SP_region ?_
          refine SPL_y (y_move rfl) rfl ?_
          refine SPL_y (y_move rfl) rfl ?_
          refine SPL_y (y_build B361 rfl rfl (by simp only [fillL, List.foldl_cons, List.foldl_nil, List.set_cons_zero, List.set_cons_succ]; exact rfl)) rfl ?_
          refine SPL_one rfl (SP1_box rfl rfl rfl ?_)
          intro b47
          refine SPL_y (y_mki Tryz.underlying359 rfl rfl) rfl ?_
          refine SPL_y (y_assign rfl) rfl ?_
          refine SPL_nil ?_
          refine thenP_n ?_
          refine SP_ret ?_
          refine thenP_ret (bodyP_ret (H' := [x.gs, x.b s8, x.st, List.flatten [blk b47 361 [pt nb4, pt nb8], blk nb4 358 [I na4, S nt4], sn8]]) (Res1 rfl rfl) (by repeat (first | exact Part.nil _ | (apply Part.cons; (first | exact P0 | exact P1 | exact P2 | exact P3 | exact P4 | exact P5 | exact P6 | exact P7 | exact P8 | exact P9 | exact P10 | exact P11 | exact P12 | exact P13 | exact P14 | exact P15 | exact P16 | exact P17 | exact P18 | exact P19 | exact P20 | exact P21 | exact P22 | exact P23)) | (apply Part.flat; simp only [List.cons_append, List.nil_append]) | (apply Part.nilc))) ?_)
          injection hP with hP
          injection hP with h1 h2
          subst h1
          subst h2
          exact ⟨_, .locFn hN8, rfl⟩
  intro h1_5
  first | rw [if_neg h1_5] at hP | rw [if_pos (Decidable.not_not.1 h1_5)] at hP | skip
  refine SPL_nil ?_
  refine thenP_n ?_
  refine SP_cond_f rfl ?_
  refine SP_skip ?_
  refine thenP_n ?_
  refine SP_seq ?_
  refine SP_region ?_
  refine SPL_y (y_move rfl) rfl ?_
  obtain ⟨r12, s12, hq12, hP⟩ := bnd2 hP
  refine SPL_one rfl (SP1_call (pr_name x (by omega) hq12) Tryz.call239 rfl rfl (by repeat (first | exact Part.nil _ | (apply Part.cons; (first | exact P0 | exact P1 | exact P2 | exact P3 | exact P4 | exact P5 | exact P6 | exact P7 | exact P8 | exact P9 | exact P10 | exact P11 | exact P12 | exact P13 | exact P14 | exact P15 | exact P16 | exact P17 | exact P18 | exact P19 | exact P20 | exact P21 | exact P22 | exact P23)) | (apply Part.flat; simp only [List.cons_append, List.nil_append]) | (apply Part.nilc))) ?_)
  rintro v post H' hL hH
  rcases r12 with _ | ⟨na12, nt12⟩
  · obtain ⟨rfl, rfl⟩ := hL
    try simp only [List.cons_append, List.nil_append] at hH
    subst hH
    try dsimp only [cond_true, cond_false, Bool.true_or, Bool.false_or] at hP
    refine SPL_y (y_assign rfl) rfl ?_
    refine SPL_nil ?_
    refine thenP_n ?_
    refine SP_seq ?_
    refine SP_seq ?_
    refine SP_region ?_
    refine SPL_y (y_move rfl) rfl ?_
    refine SPL_y (y_peql_F Tryz.underlying307 rfl rfl) rfl ?_
    refine SPL_nil ?_
    refine thenP_n ?_
    refine SP_cond_t rfl ?_
    refine SP_seq ?_
    refine SP_region ?_
    refine SPL_y (y_assign rfl) rfl ?_
    refine SPL_nil ?_
    refine thenP_n ?_
    refine SP_ret ?_
    refine thenP_ret (bodyP_ret (H' := [x.gs, x.b _, x.st, []]) (Res1 rfl rfl) (by repeat (first | exact Part.nil _ | (apply Part.cons; (first | exact P0 | exact P1 | exact P2 | exact P3 | exact P4 | exact P5 | exact P6 | exact P7 | exact P8 | exact P9 | exact P10 | exact P11 | exact P12 | exact P13 | exact P14 | exact P15 | exact P16 | exact P17 | exact P18 | exact P19 | exact P20 | exact P21 | exact P22 | exact P23)) | (apply Part.flat; simp only [List.cons_append, List.nil_append]) | (apply Part.nilc))) ?_)
    injection hP with hP
    injection hP with h1 h2
    subst h1
    subst h2
    exact ⟨[], .nil, rfl⟩
  · obtain ⟨nb12, rfl, rfl⟩ := hL
    try simp only [List.cons_append, List.nil_append] at hH
    subst hH
    try dsimp only [cond_true, cond_false, Bool.true_or, Bool.false_or] at hP
    refine SPL_y (y_assign rfl) rfl ?_
    refine SPL_nil ?_
    refine thenP_n ?_
    refine SP_seq ?_
    refine SP_seq ?_
    refine SP_region ?_
    refine SPL_y (y_move rfl) rfl ?_
    refine SPL_y (y_peql_T Tryz.underlying307 rfl rfl) rfl ?_
    refine SPL_nil ?_
    refine thenP_n ?_
    refine SP_cond_f rfl ?_
    refine SP_skip ?_
    refine thenP_n ?_
    refine SP_seq ?_
    refine SP_seq ?_
    refine SP_region ?_
    refine SPL_y (y_move rfl) rfl ?_
    obtain ⟨b15, s15, hq15, hP⟩ := bnd2 hP
    refine SPL_one rfl (SP1_call (pr_accept x hq15) Tryz.call241 rfl rfl (by repeat (first | exact Part.nil _ | (apply Part.cons; (first | exact P0 | exact P1 | exact P2 | exact P3 | exact P4 | exact P5 | exact P6 | exact P7 | exact P8 | exact P9 | exact P10 | exact P11 | exact P12 | exact P13 | exact P14 | exact P15 | exact P16 | exact P17 | exact P18 | exact P19 | exact P20 | exact P21 | exact P22 | exact P23)) | (apply Part.flat; simp only [List.cons_append, List.nil_append]) | (apply Part.nilc))) ?_)
    rintro v post H' ⟨rfl, rfl⟩ hH
    rcases b15 with _ | _
    · try simp only [List.cons_append, List.nil_append] at hH
      subst hH
      try dsimp only [cond_true, cond_false, Bool.true_or, Bool.false_or] at hP
      refine SPL_nil ?_
      refine thenP_n ?_
      refine SP_cond_f rfl ?_
      refine SP_skip ?_
      refine thenP_n ?_
      refine SP_seq ?_
      refine SP_region ?_
      refine SPL_y (y_move rfl) rfl ?_
      refine SPL_y (y_mki Tryz.underlying307 rfl rfl) rfl ?_
      refine SPL_one rfl (SP1_slice1 el_172 rfl rfl rfl rfl rfl ?_)
      intro b99
      refine SPL_y (y_build B365 rfl rfl (by simp only [fillL, List.foldl_cons, List.foldl_nil, List.set_cons_zero, List.set_cons_succ]; exact rfl)) rfl ?_
      refine SPL_one rfl (SP1_box rfl rfl rfl ?_)
      intro b101
      refine SPL_y (y_assign rfl) rfl ?_
      refine SPL_nil ?_
      refine thenP_n ?_
      refine SP_seq ?_
      refine SP_seq ?_
      refine SP_region ?_
      refine SPL_y (y_move rfl) rfl ?_
      obtain ⟨b29, s29, hq29, hP⟩ := bnd2 hP
      refine SPL_one rfl (SP1_call (pr_accept x hq29) Tryz.call241 rfl rfl (by repeat (first | exact Part.nil _ | (apply Part.cons; (first | exact P0 | exact P1 | exact P2 | exact P3 | exact P4 | exact P5 | exact P6 | exact P7 | exact P8 | exact P9 | exact P10 | exact P11 | exact P12 | exact P13 | exact P14 | exact P15 | exact P16 | exact P17 | exact P18 | exact P19 | exact P20 | exact P21 | exact P22 | exact P23)) | (apply Part.flat; simp only [List.cons_append, List.nil_append]) | (apply Part.nilc))) ?_)
      rintro v post H' ⟨rfl, rfl⟩ hH
      rcases b29 with _ | _
      · try simp only [List.cons_append, List.nil_append] at hH
        subst hH
        try dsimp only [cond_true, cond_false, Bool.true_or, Bool.false_or] at hP
        refine SPL_nil ?_
        refine thenP_n ?_
        refine SP_cond_f rfl ?_
        refine SP_skip ?_
        refine thenP_n ?_
        refine SP_seq ?_
        obtain ⟨hb, hP⟩ := grd hP
        refine SP_region ?_
        refine SPL_y (y_move rfl) rfl ?_
        refine SPL_y (y_nil rfl) rfl ?_
        refine SPL_y (y_fa fld_170_3 rfl) rfl ?_
        refine SPL_y (y_fa fld_168_0 rfl) rfl ?_
        refine SPL_y (y_load Tryz.isAgg3 rfl (by repeat (first | exact Cell.amid hpre rfl | exact Cell.head rfl | apply Cell.tail))) rfl ?_
        refine SPL_y (y_add rfl rfl (by omega)) rfl ?_
        refine SPL_y (y_nil rfl) rfl ?_
        refine SPL_y (y_fa fld_170_3 rfl) rfl ?_
        refine SPL_y (y_fa fld_168_0 rfl) rfl ?_
        refine SPL_one rfl (SP1_store Tryz.sizeOf3 rfl rfl rfl (by first | exact U0 | exact U1 | exact U2 | exact U3 | exact U4 | exact U5 | exact U6 | exact U7 | exact U8 | exact U9 | exact U10 | exact U11 | exact U12 | exact U13 | exact U14 | exact U15 | exact U16 | exact U17 | exact U18 | exact U19 | exact U20 | exact U21 | exact U22 | exact U23) (by rfl) ?_)
        refine SPL_nil ?_
        refine thenP_n ?_
        refine SP_seq ?_
        refine SP_region ?_
        refine SPL_y (y_move rfl) rfl ?_
        refine SPL_y (y_mki Tryz.underlying363 rfl rfl) rfl ?_
        refine SPL_y (y_assign rfl) rfl ?_
        refine SPL_nil ?_
        refine thenP_n ?_
        refine SP_ret ?_
        refine bodyP_ret (H' := [x.gs, x.b { s29 with alive := s29.alive + 1 }, x.st, List.flatten [blk b101 365 [.slice (some ⟨b99, 0, none⟩) 1 1, .nilIface], List.flatten [blk b99 236 [.iface 307 (pt nb12)], List.flatten [blk nb12 358 [I na12, S nt12]]], []]]) (Res1 rfl rfl) (by repeat (first | exact Part.nil _ | (apply Part.cons; (first | exact P0 | exact P1 | exact P2 | exact P3 | exact P4 | exact P5 | exact P6 | exact P7 | exact P8 | exact P9 | exact P10 | exact P11 | exact P12 | exact P13 | exact P14 | exact P15 | exact P16 | exact P17 | exact P18 | exact P19 | exact P20 | exact P21 | exact P22 | exact P23)) | (apply Part.flat; simp only [List.cons_append, List.nil_append]) | (apply Part.nilc))) ?_
        injection hP with hP
        injection hP with h1 h2
        subst h1
        subst h2
        exact ⟨_, .loc (IsL.mk (.cons .name .nil) (Arr.full rfl)) .nil, rfl⟩
      · try simp only [List.cons_append, List.nil_append] at hH
        subst hH
        try dsimp only [cond_true, cond_false, Bool.true_or, Bool.false_or] at hP
        refine SPL_nil ?_
        refine thenP_n ?_
        refine SP_cond_t rfl ?_
        refine SP_seq ?_
        refine SP_region ?_
        refine SPL_y (y_move rfl) rfl ?_
        refine SPL_y (y_move rfl) rfl ?_
        refine SPL_y (y_move rfl) rfl ?_
        refine SPL_y (y_sub rfl rfl (by omega)) rfl ?_
        obtain ⟨t30, s30, hq30, hP⟩ := bnd2 hP
        refine SPL_one rfl (SP1_call (hr.expr _ _ _ _ _ hq30) Tryz.call190 rfl rfl (by repeat (first | exact Part.nil _ | (apply Part.cons; (first | exact P0 | exact P1 | exact P2 | exact P3 | exact P4 | exact P5 | exact P6 | exact P7 | exact P8 | exact P9 | exact P10 | exact P11 | exact P12 | exact P13 | exact P14 | exact P15 | exact P16 | exact P17 | exact P18 | exact P19 | exact P20 | exact P21 | exact P22 | exact P23)) | (apply Part.flat; simp only [List.cons_append, List.nil_append]) | (apply Part.nilc))) ?_)
        rintro v30 post H' ⟨sn30, hN30, rfl⟩ hH
        rcases hN30.two with ⟨rfl, rfl, rfl⟩ | ⟨hn30, nb30, rfl⟩
        · try simp only [List.cons_append, List.nil_append] at hH
          subst hH
          try dsimp only [cond_true, cond_false, Bool.true_or, Bool.false_or] at hP
          refine SPL_y (y_nil rfl) rfl ?_
          refine SPL_y (y_fa fld_365_1 rfl) rfl ?_
          refine SPL_one rfl (SP1_store Tryz.sizeOf292 rfl rfl rfl (by first | exact U0 | exact U1 | exact U2 | exact U3 | exact U4 | exact U5 | exact U6 | exact U7 | exact U8 | exact U9 | exact U10 | exact U11 | exact U12 | exact U13 | exact U14 | exact U15 | exact U16 | exact U17 | exact U18 | exact U19 | exact U20 | exact U21 | exact U22 | exact U23) (by rfl) ?_)
          refine SPL_nil ?_
          refine thenP_n ?_
          refine SP_seq ?_
          refine SP_region ?_
          refine SPL_y (y_move rfl) rfl ?_
          refine SPL_y (y_nil rfl) rfl ?_
          refine SPL_y (y_fa fld_365_1 rfl) rfl ?_
          refine SPL_y (y_load Tryz.isAgg292 rfl (by repeat (first | exact Cell.amid hpre rfl | exact Cell.head rfl | apply Cell.tail))) rfl ?_
          refine SPL_ifn (y_nE Tryz.underlying292 rfl (by assumption)) rfl ?_ ?_
          · intro h31_4
            first | rw [if_neg h31_4] at hP | rw [if_pos (Decidable.not_not.1 h31_4)] at hP | skip
            exact absurd rfl h31_4
          intro h31_4
          first | rw [if_pos h31_4] at hP | rw [if_neg h31_4] at hP | skip
          refine SPL_nil ?_
          refine thenP_n ?_
          refine SP_cond_t rfl ?_
          refine SP_seq ?_
          refine SP_region ?_
          refine SPL_y (y_assign rfl) rfl ?_
          refine SPL_nil ?_
          refine thenP_n ?_
          refine SP_ret ?_
          refine thenP_ret (bodyP_ret (H' := [x.gs, x.b _, x.st, []]) (Res1 rfl rfl) (by repeat (first | exact Part.nil _ | (apply Part.cons; (first | exact P0 | exact P1 | exact P2 | exact P3 | exact P4 | exact P5 | exact P6 | exact P7 | exact P8 | exact P9 | exact P10 | exact P11 | exact P12 | exact P13 | exact P14 | exact P15 | exact P16 | exact P17 | exact P18 | exact P19 | exact P20 | exact P21 | exact P22 | exact P23)) | (apply Part.flat; simp only [List.cons_append, List.nil_append]) | (apply Part.nilc))) ?_)
          injection hP with hP
          injection hP with h1 h2
          subst h1
          subst h2
          exact ⟨[], .nil, rfl⟩
        · try simp only [List.cons_append, List.nil_append] at hH
          subst hH
          try dsimp only [cond_true, cond_false, Bool.true_or, Bool.false_or] at hP
          refine SPL_y (y_nil rfl) rfl ?_
          refine SPL_y (y_fa fld_365_1 rfl) rfl ?_
          refine SPL_one rfl (SP1_store Tryz.sizeOf292 rfl rfl rfl (by first | exact U0 | exact U1 | exact U2 | exact U3 | exact U4 | exact U5 | exact U6 | exact U7 | exact U8 | exact U9 | exact U10 | exact U11 | exact U12 | exact U13 | exact U14 | exact U15 | exact U16 | exact U17 | exact U18 | exact U19 | exact U20 | exact U21 | exact U22 | exact U23) (by rfl) ?_)
          refine SPL_nil ?_
          refine thenP_n ?_
          refine SP_seq ?_
          refine SP_region ?_
          refine SPL_y (y_move rfl) rfl ?_
          refine SPL_y (y_nil rfl) rfl ?_
          refine SPL_y (y_fa fld_365_1 rfl) rfl ?_
          refine SPL_y (y_load Tryz.isAgg292 rfl (by repeat (first | exact Cell.amid hpre rfl | exact Cell.head rfl | apply Cell.tail))) rfl ?_
          refine SPL_if (y_nE Tryz.underlying292 rfl (by assumption)) rfl ?_ ?_
          · intro h31_4
            first | rw [if_pos h31_4] at hP | rw [if_neg h31_4] at hP | skip
            rw [hn30] at h31_4
            cases h31_4
          intro h31_4
          first | rw [if_neg h31_4] at hP | rw [if_pos (Decidable.not_not.1 h31_4)] at hP | skip
          refine SPL_nil ?_
          refine thenP_n ?_
          refine SP_cond_f rfl ?_
          refine SP_skip ?_
          refine thenP_n ?_
          refine SP_seq ?_
          obtain ⟨hb, hP⟩ := grd hP
          refine SP_region ?_
          refine SPL_y (y_move rfl) rfl ?_
          refine SPL_y (y_nil rfl) rfl ?_
          refine SPL_y (y_fa fld_170_3 rfl) rfl ?_
          refine SPL_y (y_fa fld_168_0 rfl) rfl ?_
          refine SPL_y (y_load Tryz.isAgg3 rfl (by repeat (first | exact Cell.amid hpre rfl | exact Cell.head rfl | apply Cell.tail))) rfl ?_
          refine SPL_y (y_add rfl rfl (by omega)) rfl ?_
          refine SPL_y (y_nil rfl) rfl ?_
          refine SPL_y (y_fa fld_170_3 rfl) rfl ?_
          refine SPL_y (y_fa fld_168_0 rfl) rfl ?_
          refine SPL_one rfl (SP1_store Tryz.sizeOf3 rfl rfl rfl (by first | exact U0 | exact U1 | exact U2 | exact U3 | exact U4 | exact U5 | exact U6 | exact U7 | exact U8 | exact U9 | exact U10 | exact U11 | exact U12 | exact U13 | exact U14 | exact U15 | exact U16 | exact U17 | exact U18 | exact U19 | exact U20 | exact U21 | exact U22 | exact U23) (by rfl) ?_)
          refine SPL_nil ?_
          refine thenP_n ?_
          refine SP_seq ?_
          refine SP_region ?_
          refine SPL_y (y_move rfl) rfl ?_
          refine SPL_y (y_mki Tryz.underlying363 rfl rfl) rfl ?_
          refine SPL_y (y_assign rfl) rfl ?_
          refine SPL_nil ?_
          refine thenP_n ?_
          refine SP_ret ?_
          refine bodyP_ret (H' := [x.gs, x.b { s30 with alive := s30.alive + 1 }, x.st, List.flatten [blk b101 365 [.slice (some ⟨b99, 0, none⟩) 1 1, .iface t30.ty (pt nb30)], List.flatten [blk b99 236 [.iface 307 (pt nb12)], List.flatten [blk nb12 358 [I na12, S nt12]]], sn30]]) (Res1 rfl rfl) (by repeat (first | exact Part.nil _ | (apply Part.cons; (first | exact P0 | exact P1 | exact P2 | exact P3 | exact P4 | exact P5 | exact P6 | exact P7 | exact P8 | exact P9 | exact P10 | exact P11 | exact P12 | exact P13 | exact P14 | exact P15 | exact P16 | exact P17 | exact P18 | exact P19 | exact P20 | exact P21 | exact P22 | exact P23)) | (apply Part.flat; simp only [List.cons_append, List.nil_append]) | (apply Part.nilc))) ?_
          injection hP with hP
          injection hP with h1 h2
          subst h1
          subst h2
          exact ⟨_, .loc (IsL.mk (.cons .name .nil) (Arr.full rfl)) hN30, rfl⟩
    · try simp only [List.cons_append, List.nil_append] at hH
      subst hH
      try dsimp only [cond_true, cond_false, Bool.true_or, Bool.false_or] at hP
      refine SPL_nil ?_
      refine thenP_n ?_
      refine SP_cond_t rfl ?_
      refine SP_seq ?_
      refine SP_region ?_
      refine SPL_y (y_move rfl) rfl ?_
      obtain ⟨r16, s16, hq16, hP⟩ := bnd2 hP
      refine SPL_one rfl (SP1_call (pr_name x (by omega) hq16) Tryz.call239 rfl rfl (by repeat (first | exact Part.nil _ | (apply Part.cons; (first | exact P0 | exact P1 | exact P2 | exact P3 | exact P4 | exact P5 | exact P6 | exact P7 | exact P8 | exact P9 | exact P10 | exact P11 | exact P12 | exact P13 | exact P14 | exact P15 | exact P16 | exact P17 | exact P18 | exact P19 | exact P20 | exact P21 | exact P22 | exact P23)) | (apply Part.flat; simp only [List.cons_append, List.nil_append]) | (apply Part.nilc))) ?_)
      rintro v post H' hL hH
      rcases r16 with _ | ⟨na16, nt16⟩
      · obtain ⟨rfl, rfl⟩ := hL
        try simp only [List.cons_append, List.nil_append] at hH
        subst hH
        try dsimp only [cond_true, cond_false, Bool.true_or, Bool.false_or] at hP
        refine SPL_y (y_assign rfl) rfl ?_
        refine SPL_nil ?_
        refine thenP_n ?_
        refine SP_seq ?_
        refine SP_seq ?_
        refine SP_region ?_
        refine SPL_y (y_move rfl) rfl ?_
        refine SPL_y (y_peql_F Tryz.underlying307 rfl rfl) rfl ?_
        refine SPL_y (y_move rfl) rfl ?_
        refine SPL_gn rfl rfl rfl rfl ?_
        refine SPL_gn rfl rfl rfl rfl ?_
        refine SPL_gn rfl rfl rfl rfl ?_
        refine SPL_y (y_pick_t rfl rfl) rfl ?_
        refine SPL_nil ?_
        refine thenP_n ?_
        refine SP_cond_t rfl ?_
        refine SP_seq ?_
        refine SP_region ?_
        refine SPL_y (y_assign rfl) rfl ?_
        refine SPL_nil ?_
        refine thenP_n ?_
        refine SP_ret ?_
        refine thenP_ret (thenP_ret (bodyP_ret (H' := [x.gs, x.b _, x.st, []]) (Res1 rfl rfl) (by repeat (first | exact Part.nil _ | (apply Part.cons; (first | exact P0 | exact P1 | exact P2 | exact P3 | exact P4 | exact P5 | exact P6 | exact P7 | exact P8 | exact P9 | exact P10 | exact P11 | exact P12 | exact P13 | exact P14 | exact P15 | exact P16 | exact P17 | exact P18 | exact P19 | exact P20 | exact P21 | exact P22 | exact P23)) | (apply Part.flat; simp only [List.cons_append, List.nil_append]) | (apply Part.nilc))) ?_))
        injection hP with hP
        injection hP with h1 h2
        subst h1
        subst h2
        exact ⟨[], .nil, rfl⟩
      · obtain ⟨nb16, rfl, rfl⟩ := hL
        try simp only [List.cons_append, List.nil_append] at hH
        subst hH
        try dsimp only [cond_true, cond_false, Bool.true_or, Bool.false_or] at hP
        refine SPL_y (y_assign rfl) rfl ?_
        refine SPL_nil ?_
        refine thenP_n ?_
        refine SP_seq ?_
        refine SP_seq ?_
        refine SP_region ?_
        refine SPL_y (y_move rfl) rfl ?_
        refine SPL_y (y_peql_T Tryz.underlying307 rfl rfl) rfl ?_
        refine SPL_y (y_move rfl) rfl ?_
        refine SPL_gy rfl rfl ?_
        refine SPL_y (y_move rfl) rfl ?_
        refine SPL_gy rfl rfl ?_
        obtain ⟨b17, s17, hq17, hP⟩ := bnd2 hP
        refine SPL_one rfl (SP1_call (pr_expect x hq17) Tryz.call242 rfl rfl (by repeat (first | exact Part.nil _ | (apply Part.cons; (first | exact P0 | exact P1 | exact P2 | exact P3 | exact P4 | exact P5 | exact P6 | exact P7 | exact P8 | exact P9 | exact P10 | exact P11 | exact P12 | exact P13 | exact P14 | exact P15 | exact P16 | exact P17 | exact P18 | exact P19 | exact P20 | exact P21 | exact P22 | exact P23)) | (apply Part.flat; simp only [List.cons_append, List.nil_append]) | (apply Part.nilc))) ?_)
        rintro v post H' ⟨rfl, rfl⟩ hH
        rcases b17 with _ | _
        · try simp only [List.cons_append, List.nil_append] at hH
          subst hH
          try dsimp only [cond_true, cond_false, Bool.true_or, Bool.false_or] at hP
          refine SPL_gy rfl rfl ?_
          refine SPL_y (y_not_f rfl) rfl ?_
          refine SPL_y (y_pick_f rfl rfl) rfl ?_
          refine SPL_nil ?_
          refine thenP_n ?_
          refine SP_cond_t rfl ?_
          refine SP_seq ?_
          refine SP_region ?_
          refine SPL_y (y_assign rfl) rfl ?_
          refine SPL_nil ?_
          refine thenP_n ?_
          refine SP_ret ?_
          refine thenP_ret (thenP_ret (bodyP_ret (H' := [x.gs, x.b _, x.st, []]) (Res1 rfl rfl) (by repeat (first | exact Part.nil _ | (apply Part.cons; (first | exact P0 | exact P1 | exact P2 | exact P3 | exact P4 | exact P5 | exact P6 | exact P7 | exact P8 | exact P9 | exact P10 | exact P11 | exact P12 | exact P13 | exact P14 | exact P15 | exact P16 | exact P17 | exact P18 | exact P19 | exact P20 | exact P21 | exact P22 | exact P23)) | (apply Part.flat; simp only [List.cons_append, List.nil_append]) | (apply Part.nilc))) ?_))
          injection hP with hP
          injection hP with h1 h2
          subst h1
          subst h2
          exact ⟨[], .nil, rfl⟩
        · try simp only [List.cons_append, List.nil_append] at hH
          subst hH
          try dsimp only [cond_true, cond_false, Bool.true_or, Bool.false_or] at hP
          refine SPL_gy rfl rfl ?_
          refine SPL_y (y_not_t rfl) rfl ?_
          refine SPL_y (y_pick_f rfl rfl) rfl ?_
          refine SPL_nil ?_
          refine thenP_n ?_
          refine SP_cond_f rfl ?_
          refine SP_skip ?_
          refine thenP_n ?_
          refine SP_seq ?_
          refine SP_region ?_
          refine SPL_y (y_move rfl) rfl ?_
          refine SPL_y (y_move rfl) rfl ?_
          refine SPL_y (y_sub rfl rfl (by omega)) rfl ?_
          obtain ⟨t19, s19, hq19, hP⟩ := bnd2 hP
          refine SPL_one rfl (SP1_call (hr.expr _ _ _ _ _ hq19) Tryz.call190 rfl rfl (by repeat (first | exact Part.nil _ | (apply Part.cons; (first | exact P0 | exact P1 | exact P2 | exact P3 | exact P4 | exact P5 | exact P6 | exact P7 | exact P8 | exact P9 | exact P10 | exact P11 | exact P12 | exact P13 | exact P14 | exact P15 | exact P16 | exact P17 | exact P18 | exact P19 | exact P20 | exact P21 | exact P22 | exact P23)) | (apply Part.flat; simp only [List.cons_append, List.nil_append]) | (apply Part.nilc))) ?_)
          rintro v19 post H' ⟨sn19, hN19, rfl⟩ hH
          try simp only [List.cons_append, List.nil_append] at hH
          subst hH
          refine SPL_y (y_assign rfl) rfl ?_
          refine SPL_nil ?_
          refine thenP_n ?_
          refine SP_seq ?_
          refine SP_seq ?_
          refine SP_region ?_
          refine SPL_y (y_move rfl) rfl ?_
          refine SPL_if (y_nE Tryz.underlying292 rfl (by assumption)) rfl ?_ ?_
          · intro h20_1
            first | rw [if_pos h20_1] at hP | rw [if_neg h20_1] at hP | skip
            refine SPL_nil ?_
            refine thenP_n ?_
            refine SP_cond_t rfl ?_
            refine SP_seq ?_
            refine SP_region ?_
            refine SPL_y (y_assign rfl) rfl ?_
            refine SPL_nil ?_
            refine thenP_n ?_
            refine SP_ret ?_
            refine thenP_ret (thenP_ret (bodyP_ret (H' := [x.gs, x.b _, x.st, []]) (Res1 rfl rfl) (by repeat (first | exact Part.nil _ | (apply Part.cons; (first | exact P0 | exact P1 | exact P2 | exact P3 | exact P4 | exact P5 | exact P6 | exact P7 | exact P8 | exact P9 | exact P10 | exact P11 | exact P12 | exact P13 | exact P14 | exact P15 | exact P16 | exact P17 | exact P18 | exact P19 | exact P20 | exact P21 | exact P22 | exact P23)) | (apply Part.flat; simp only [List.cons_append, List.nil_append]) | (apply Part.nilc))) ?_))
            injection hP with hP
            injection hP with h1 h2
            subst h1
            subst h2
            exact ⟨[], .nil, rfl⟩
          intro h20_1
          first | rw [if_neg h20_1] at hP | rw [if_pos (Decidable.not_not.1 h20_1)] at hP | skip
          obtain ⟨nb19, rfl⟩ := hN19.shape (by simpa using h20_1)
          refine SPL_nil ?_
          refine thenP_n ?_
          refine SP_cond_f rfl ?_
          refine SP_skip ?_
          refine thenP_n ?_
          refine SP_seq ?_
          refine SP_seq ?_
          refine SP_region ?_
          refine SPL_y (y_move rfl) rfl ?_
          obtain ⟨q22, hty⟩ : ∃ q, Nat.beq t19.ty 302 = q := ⟨_, rfl⟩
          rw [hty] at hP
          refine SPL_y (y_assertQ Tryz.underlying302 rfl Tryz.zeroValue302 rfl hty) rfl ?_
          refine SPL_y (y_move rfl) rfl ?_
          refine SPL_y (y_ext rfl rfl) rfl ?_
          refine SPL_y (y_ext rfl rfl) rfl ?_
          rcases q22 with _ | _
          · try dsimp only [cond_true, cond_false, Bool.true_or, Bool.false_or] at hP
            refine SPL_y (y_assign rfl) rfl ?_
            refine SPL_y (y_assign rfl) rfl ?_
            refine SPL_nil ?_
            refine thenP_n ?_
            refine SP_seq ?_
            refine SP_region ?_
            refine SPL_y (y_move rfl) rfl ?_
            refine SPL_y (y_not_f rfl) rfl ?_
            refine SPL_nil ?_
            refine thenP_n ?_
            refine SP_cond_t rfl ?_
            refine SP_seq ?_
            refine SP_region ?_
            refine SPL_y (y_move rfl) rfl ?_
            refine SPL_one rfl (SP1_call (pr_fail x (15) _) Tryz.call70 rfl rfl (by repeat (first | exact Part.nil _ | (apply Part.cons; (first | exact P0 | exact P1 | exact P2 | exact P3 | exact P4 | exact P5 | exact P6 | exact P7 | exact P8 | exact P9 | exact P10 | exact P11 | exact P12 | exact P13 | exact P14 | exact P15 | exact P16 | exact P17 | exact P18 | exact P19 | exact P20 | exact P21 | exact P22 | exact P23)) | (apply Part.flat; simp only [List.cons_append, List.nil_append]) | (apply Part.nilc))) ?_)
            rintro v post H' ⟨rfl, rfl⟩ hH
            try simp only [List.cons_append, List.nil_append] at hH
            subst hH
            refine SPL_nil ?_
            refine thenP_n ?_
            refine SP_seq ?_
            refine SP_region ?_
            refine SPL_y (y_assign rfl) rfl ?_
            refine SPL_nil ?_
            refine thenP_n ?_
            refine SP_ret ?_
            refine thenP_ret (thenP_ret (bodyP_ret (H' := [x.gs, x.b _, x.st, []]) (Res1 rfl rfl) (by repeat (first | exact Part.nil _ | (apply Part.cons; (first | exact P0 | exact P1 | exact P2 | exact P3 | exact P4 | exact P5 | exact P6 | exact P7 | exact P8 | exact P9 | exact P10 | exact P11 | exact P12 | exact P13 | exact P14 | exact P15 | exact P16 | exact P17 | exact P18 | exact P19 | exact P20 | exact P21 | exact P22 | exact P23)) | (apply Part.flat; simp only [List.cons_append, List.nil_append]) | (apply Part.nilc))) ?_))
            injection hP with hP
            injection hP with h1 h2
            subst h1
            subst h2
            exact ⟨[], .nil, rfl⟩
          · try dsimp only [cond_true, cond_false, Bool.true_or, Bool.false_or] at hP
            refine SPL_y (y_assign rfl) rfl ?_
            refine SPL_y (y_assign rfl) rfl ?_
            refine SPL_nil ?_
            refine thenP_n ?_
            refine SP_seq ?_
            refine SP_region ?_
            refine SPL_y (y_move rfl) rfl ?_
            refine SPL_y (y_not_t rfl) rfl ?_
            refine SPL_nil ?_
            refine thenP_n ?_
            refine SP_cond_f rfl ?_
            refine SP_skip ?_
            refine thenP_n ?_
            refine SP_seq ?_
            obtain ⟨hb, hP⟩ := grd hP
            refine SP_region ?_
            refine SPL_y (y_move rfl) rfl ?_
            refine SPL_y (y_nil rfl) rfl ?_
            refine SPL_y (y_fa fld_170_3 rfl) rfl ?_
            refine SPL_y (y_fa fld_168_0 rfl) rfl ?_
            refine SPL_y (y_load Tryz.isAgg3 rfl (by repeat (first | exact Cell.amid hpre rfl | exact Cell.head rfl | apply Cell.tail))) rfl ?_
            refine SPL_y (y_add rfl rfl (by omega)) rfl ?_
            refine SPL_y (y_nil rfl) rfl ?_
            refine SPL_y (y_fa fld_170_3 rfl) rfl ?_
            refine SPL_y (y_fa fld_168_0 rfl) rfl ?_
            refine SPL_one rfl (SP1_store Tryz.sizeOf3 rfl rfl rfl (by first | exact U0 | exact U1 | exact U2 | exact U3 | exact U4 | exact U5 | exact U6 | exact U7 | exact U8 | exact U9 | exact U10 | exact U11 | exact U12 | exact U13 | exact U14 | exact U15 | exact U16 | exact U17 | exact U18 | exact U19 | exact U20 | exact U21 | exact U22 | exact U23) (by rfl) ?_)
            refine SPL_nil ?_
            refine thenP_n ?_
            refine SP_seq ?_
            refine SP_region ?_
            refine SPL_y (y_move rfl) rfl ?_
            refine SPL_y (y_mki Tryz.underlying307 rfl rfl) rfl ?_
            refine SPL_y (y_move rfl) rfl ?_
            refine SPL_y (y_mki Tryz.underlying307 rfl rfl) rfl ?_
            refine SPL_one rfl (SP1_slice12 el_172 rfl rfl rfl rfl rfl ?_)
            intro b92
            refine SPL_y (y_move rfl) rfl ?_
            refine SPL_y (y_build B365 rfl rfl (by simp only [fillL, List.foldl_cons, List.foldl_nil, List.set_cons_zero, List.set_cons_succ]; exact rfl)) rfl ?_
            refine SPL_one rfl (SP1_box rfl rfl rfl ?_)
            intro b95
            refine SPL_y (y_mki Tryz.underlying363 rfl rfl) rfl ?_
            refine SPL_y (y_assign rfl) rfl ?_
            refine SPL_nil ?_
            refine thenP_n ?_
            refine SP_ret ?_
            refine thenP_ret (bodyP_ret (H' := [x.gs, x.b { s19 with alive := s19.alive + 2 }, x.st, List.flatten [blk b95 365 [.slice (some ⟨b92, 0, none⟩) 2 2, .iface t19.ty (pt nb19)], List.flatten [blk b92 236 [.iface 307 (pt nb12), .iface 307 (pt nb16)], List.flatten [blk nb12 358 [I na12, S nt12], blk nb16 358 [I na16, S nt16]]], sn19]]) (Res1 rfl rfl) (by repeat (first | exact Part.nil _ | (apply Part.cons; (first | exact P0 | exact P1 | exact P2 | exact P3 | exact P4 | exact P5 | exact P6 | exact P7 | exact P8 | exact P9 | exact P10 | exact P11 | exact P12 | exact P13 | exact P14 | exact P15 | exact P16 | exact P17 | exact P18 | exact P19 | exact P20 | exact P21 | exact P22 | exact P23)) | (apply Part.flat; simp only [List.cons_append, List.nil_append]) | (apply Part.nilc))) ?_)
            injection hP with hP
            injection hP with h1 h2
            subst h1
            subst h2
            exact ⟨_, .loc (IsL.mk (.cons .name (.cons .name .nil)) (Arr.full rfl)) hN19, rfl⟩

theorem pr_branch (x : PX) (rc : Rec) (hr : RecOk x rc) {room : Int} {s s' : PS} {t : T} (hP : branchP x.toks rc room s = some (t, s')) : Spec Tryz.prog 188 [pt x.p, I room] [x.gs, x.b s, x.st] (Ret (ndOk x t s')) := by
  unfold branchP at hP
  obtain ⟨hrm, hP⟩ := grd hP
  refine Spec_enter Tryz.func188 rfl Tryz.ntmps188 rfl ?_
  show SP _ _ _ _ _ [(0, _), (1, _)] _
  refine SP_seq ?_
  refine SP_region ?_
  refine SPL_y (y_assign rfl) rfl ?_
  refine SPL_nil ?_
  refine thenP_n ?_
  refine SP_seq ?_
  refine SP_region ?_
  refine SPL_y (y_move rfl) rfl ?_
  refine SPL_y (y_nil rfl) rfl ?_
  refine SPL_y (y_fa fld_170_2 rfl) rfl ?_
  refine SPL_y (y_fa fld_156_1 rfl) rfl ?_
  refine SPL_y (y_load Tryz.isAgg3 rfl (by repeat (first | exact Cell.amid hpre rfl | exact Cell.head rfl | apply Cell.tail))) rfl ?_
  refine SPL_y (y_build B368 rfl rfl (by simp only [fillL, List.foldl_cons, List.foldl_nil, List.set_cons_zero, List.set_cons_succ]; exact rfl)) rfl ?_
  refine SPL_one rfl (SP1_box rfl rfl rfl ?_)
  intro b14
  refine SPL_y (y_assign rfl) rfl ?_
  refine SPL_nil ?_
  refine thenP_n ?_
  refine SP_seq ?_
  refine SP_region ?_
  refine SPL_y (y_move rfl) rfl ?_
  obtain ⟨s2, hq2, hP⟩ := bnd1 hP
  refine SPL_one rfl (SP1_call (pr_next x hq2) Tryz.call186 rfl rfl (by repeat (first | exact Part.nil _ | (apply Part.cons; (first | exact P0 | exact P1 | exact P2 | exact P3 | exact P4 | exact P5 | exact P6 | exact P7 | exact P8 | exact P9 | exact P10 | exact P11 | exact P12 | exact P13 | exact P14 | exact P15 | exact P16 | exact P17 | exact P18 | exact P19 | exact P20 | exact P21 | exact P22 | exact P23)) | (apply Part.flat; simp only [List.cons_append, List.nil_append]) | (apply Part.nilc))) ?_)
  rintro v post H' ⟨rfl, rfl⟩ hH
  try simp only [List.cons_append, List.nil_append] at hH
  subst hH
  refine SPL_nil ?_
  refine thenP_n ?_
  refine SP_seq ?_
  refine SP_region ?_
  refine SPL_y (y_move rfl) rfl ?_
  refine SPL_y (y_move rfl) rfl ?_
  refine SPL_y (y_move rfl) rfl ?_
  refine SPL_y (y_sub rfl rfl (by omega)) rfl ?_
  obtain ⟨t3, s3, hq3, hP⟩ := bnd2 hP
  refine SPL_one rfl (SP1_call (hr.expr _ _ _ _ _ hq3) Tryz.call190 rfl rfl (by repeat (first | exact Part.nil _ | (apply Part.cons; (first | exact P0 | exact P1 | exact P2 | exact P3 | exact P4 | exact P5 | exact P6 | exact P7 | exact P8 | exact P9 | exact P10 | exact P11 | exact P12 | exact P13 | exact P14 | exact P15 | exact P16 | exact P17 | exact P18 | exact P19 | exact P20 | exact P21 | exact P22 | exact P23)) | (apply Part.flat; simp only [List.cons_append, List.nil_append]) | (apply Part.nilc))) ?_)
  rintro v3 post H' ⟨sn3, hN3, rfl⟩ hH
  rcases hN3.two with ⟨rfl, rfl, rfl⟩ | ⟨hn3, nb3, rfl⟩
  · try simp only [List.cons_append, List.nil_append] at hH
    subst hH
    try dsimp only [cond_true, cond_false, Bool.true_or, Bool.false_or] at hP
    refine SPL_y (y_nil rfl) rfl ?_
    refine SPL_y (y_fa fld_368_1 rfl) rfl ?_
    refine SPL_one rfl (SP1_store Tryz.sizeOf292 rfl rfl rfl (by first | exact U0 | exact U1 | exact U2 | exact U3 | exact U4 | exact U5 | exact U6 | exact U7 | exact U8 | exact U9 | exact U10 | exact U11 | exact U12 | exact U13 | exact U14 | exact U15 | exact U16 | exact U17 | exact U18 | exact U19 | exact U20 | exact U21 | exact U22 | exact U23) (by rfl) ?_)
    refine SPL_nil ?_
    refine thenP_n ?_
    refine SP_seq ?_
    refine SP_seq ?_
    refine SP_region ?_
    refine SPL_y (y_move rfl) rfl ?_
    refine SPL_y (y_nil rfl) rfl ?_
    refine SPL_y (y_fa fld_368_1 rfl) rfl ?_
    refine SPL_y (y_load Tryz.isAgg292 rfl (by repeat (first | exact Cell.amid hpre rfl | exact Cell.head rfl | apply Cell.tail))) rfl ?_
    refine SPL_ifn (y_nE Tryz.underlying292 rfl (by assumption)) rfl ?_ ?_
    · intro h4_4
      first | rw [if_neg h4_4] at hP | rw [if_pos (Decidable.not_not.1 h4_4)] at hP | skip
      exact absurd rfl h4_4
    intro h4_4
    first | rw [if_pos h4_4] at hP | rw [if_neg h4_4] at hP | skip
    refine SPL_y (y_move rfl) rfl ?_
    refine SPL_gn rfl rfl rfl rfl ?_
    refine SPL_gn rfl rfl rfl rfl ?_
    refine SPL_gn rfl rfl rfl rfl ?_
    refine SPL_y (y_pick_t rfl rfl) rfl ?_
    refine SPL_nil ?_
    refine thenP_n ?_
    refine SP_cond_t rfl ?_
    refine SP_seq ?_
    refine SP_region ?_
    refine SPL_y (y_assign rfl) rfl ?_
    refine SPL_nil ?_
    refine thenP_n ?_
    refine SP_ret ?_
    refine thenP_ret (bodyP_ret (H' := [x.gs, x.b _, x.st, []]) (Res1 rfl rfl) (by repeat (first | exact Part.nil _ | (apply Part.cons; (first | exact P0 | exact P1 | exact P2 | exact P3 | exact P4 | exact P5 | exact P6 | exact P7 | exact P8 | exact P9 | exact P10 | exact P11 | exact P12 | exact P13 | exact P14 | exact P15 | exact P16 | exact P17 | exact P18 | exact P19 | exact P20 | exact P21 | exact P22 | exact P23)) | (apply Part.flat; simp only [List.cons_append, List.nil_append]) | (apply Part.nilc))) ?_)
    injection hP with hP
    injection hP with h1 h2
    subst h1
    subst h2
    exact ⟨[], .nil, rfl⟩
  · try simp only [List.cons_append, List.nil_append] at hH
    subst hH
    try dsimp only [cond_true, cond_false, Bool.true_or, Bool.false_or] at hP
    refine SPL_y (y_nil rfl) rfl ?_
    refine SPL_y (y_fa fld_368_1 rfl) rfl ?_
    refine SPL_one rfl (SP1_store Tryz.sizeOf292 rfl rfl rfl (by first | exact U0 | exact U1 | exact U2 | exact U3 | exact U4 | exact U5 | exact U6 | exact U7 | exact U8 | exact U9 | exact U10 | exact U11 | exact U12 | exact U13 | exact U14 | exact U15 | exact U16 | exact U17 | exact U18 | exact U19 | exact U20 | exact U21 | exact U22 | exact U23) (by rfl) ?_)
    refine SPL_nil ?_
    refine thenP_n ?_
    refine SP_seq ?_
    refine SP_seq ?_
    refine SP_region ?_
    refine SPL_y (y_move rfl) rfl ?_
    refine SPL_y (y_nil rfl) rfl ?_
    refine SPL_y (y_fa fld_368_1 rfl) rfl ?_
    refine SPL_y (y_load Tryz.isAgg292 rfl (by repeat (first | exact Cell.amid hpre rfl | exact Cell.head rfl | apply Cell.tail))) rfl ?_
    refine SPL_if (y_nE Tryz.underlying292 rfl (by assumption)) rfl ?_ ?_
    · intro h4_4
      first | rw [if_pos h4_4] at hP | rw [if_neg h4_4] at hP | skip
      rw [hn3] at h4_4
      cases h4_4
    intro h4_4
    first | rw [if_neg h4_4] at hP | rw [if_pos (Decidable.not_not.1 h4_4)] at hP | skip
    refine SPL_y (y_move rfl) rfl ?_
    refine SPL_gy rfl rfl ?_
    refine SPL_y (y_move rfl) rfl ?_
    refine SPL_gy rfl rfl ?_
    obtain ⟨b4, s4, hq4, hP⟩ := bnd2 hP
    refine SPL_one rfl (SP1_call (pr_expect x hq4) Tryz.call242 rfl rfl (by repeat (first | exact Part.nil _ | (apply Part.cons; (first | exact P0 | exact P1 | exact P2 | exact P3 | exact P4 | exact P5 | exact P6 | exact P7 | exact P8 | exact P9 | exact P10 | exact P11 | exact P12 | exact P13 | exact P14 | exact P15 | exact P16 | exact P17 | exact P18 | exact P19 | exact P20 | exact P21 | exact P22 | exact P23)) | (apply Part.flat; simp only [List.cons_append, List.nil_append]) | (apply Part.nilc))) ?_)
    rintro v post H' ⟨rfl, rfl⟩ hH
    rcases b4 with _ | _
    · try simp only [List.cons_append, List.nil_append] at hH
      subst hH
      try dsimp only [cond_true, cond_false, Bool.true_or, Bool.false_or] at hP
      refine SPL_gy rfl rfl ?_
      refine SPL_y (y_not_f rfl) rfl ?_
      refine SPL_y (y_pick_f rfl rfl) rfl ?_
      refine SPL_nil ?_
      refine thenP_n ?_
      refine SP_cond_t rfl ?_
      refine SP_seq ?_
      refine SP_region ?_
      refine SPL_y (y_assign rfl) rfl ?_
      refine SPL_nil ?_
      refine thenP_n ?_
      refine SP_ret ?_
      refine thenP_ret (bodyP_ret (H' := [x.gs, x.b _, x.st, []]) (Res1 rfl rfl) (by repeat (first | exact Part.nil _ | (apply Part.cons; (first | exact P0 | exact P1 | exact P2 | exact P3 | exact P4 | exact P5 | exact P6 | exact P7 | exact P8 | exact P9 | exact P10 | exact P11 | exact P12 | exact P13 | exact P14 | exact P15 | exact P16 | exact P17 | exact P18 | exact P19 | exact P20 | exact P21 | exact P22 | exact P23)) | (apply Part.flat; simp only [List.cons_append, List.nil_append]) | (apply Part.nilc))) ?_)
      injection hP with hP
      injection hP with h1 h2
      subst h1
      subst h2
      exact ⟨[], .nil, rfl⟩
    · try simp only [List.cons_append, List.nil_append] at hH
      subst hH
      try dsimp only [cond_true, cond_false, Bool.true_or, Bool.false_or] at hP
      refine SPL_gy rfl rfl ?_
      refine SPL_y (y_not_t rfl) rfl ?_
      refine SPL_y (y_pick_f rfl rfl) rfl ?_
      refine SPL_nil ?_
      refine thenP_n ?_
      refine SP_cond_f rfl ?_
      refine SP_skip ?_
      refine thenP_n ?_
      refine SP_seq ?_
      refine SP_region ?_
      refine SPL_y (y_assign rfl) rfl ?_
      refine SPL_nil ?_
      refine thenP_n ?_
      refine SP_seq ?_
      refine SP_region ?_
      refine SPL_y (y_move rfl) rfl ?_
      refine SPL_y (y_move rfl) rfl ?_
      refine SPL_y (y_move rfl) rfl ?_
      refine SPL_y (y_sub rfl rfl (by omega)) rfl ?_
      obtain ⟨r7, s7, hq7, hP⟩ := bnd2 hP
      refine SPL_one rfl (SP1_call (hr.block _ _ _ _ hq7) Tryz.call69 rfl rfl (by repeat (first | exact Part.nil _ | (apply Part.cons; (first | exact P0 | exact P1 | exact P2 | exact P3 | exact P4 | exact P5 | exact P6 | exact P7 | exact P8 | exact P9 | exact P10 | exact P11 | exact P12 | exact P13 | exact P14 | exact P15 | exact P16 | exact P17 | exact P18 | exact P19 | exact P20 | exact P21 | exact P22 | exact P23)) | (apply Part.flat; simp only [List.cons_append, List.nil_append]) | (apply Part.nilc))) ?_)
      rintro v post H' hL hH
      rcases r7 with _ | l7
      · obtain ⟨rfl, rfl⟩ := hL
        try simp only [List.cons_append, List.nil_append] at hH
        subst hH
        try dsimp only [cond_true, cond_false, Bool.true_or, Bool.false_or] at hP
        refine SPL_y (y_move rfl) rfl ?_
        refine SPL_y (y_ext rfl rfl) rfl ?_
        refine SPL_y (y_ext rfl rfl) rfl ?_
        refine SPL_y (y_nil rfl) rfl ?_
        refine SPL_y (y_fa fld_368_2 rfl) rfl ?_
        refine SPL_one rfl (SP1_store Tryz.sizeOf172 rfl rfl rfl (by first | exact U0 | exact U1 | exact U2 | exact U3 | exact U4 | exact U5 | exact U6 | exact U7 | exact U8 | exact U9 | exact U10 | exact U11 | exact U12 | exact U13 | exact U14 | exact U15 | exact U16 | exact U17 | exact U18 | exact U19 | exact U20 | exact U21 | exact U22 | exact U23) (by rfl) ?_)
        refine SPL_y (y_assign rfl) rfl ?_
        refine SPL_nil ?_
        refine thenP_n ?_
        refine SP_seq ?_
        refine SP_seq ?_
        refine SP_region ?_
        refine SPL_y (y_move rfl) rfl ?_
        refine SPL_y (y_not_f rfl) rfl ?_
        refine SPL_nil ?_
        refine thenP_n ?_
        refine SP_cond_t rfl ?_
        refine SP_seq ?_
        refine SP_region ?_
        refine SPL_y (y_assign rfl) rfl ?_
        refine SPL_nil ?_
        refine thenP_n ?_
        refine SP_ret ?_
        refine thenP_ret (bodyP_ret (H' := [x.gs, x.b _, x.st, []]) (Res1 rfl rfl) (by repeat (first | exact Part.nil _ | (apply Part.cons; (first | exact P0 | exact P1 | exact P2 | exact P3 | exact P4 | exact P5 | exact P6 | exact P7 | exact P8 | exact P9 | exact P10 | exact P11 | exact P12 | exact P13 | exact P14 | exact P15 | exact P16 | exact P17 | exact P18 | exact P19 | exact P20 | exact P21 | exact P22 | exact P23)) | (apply Part.flat; simp only [List.cons_append, List.nil_append]) | (apply Part.nilc))) ?_)
        injection hP with hP
        injection hP with h1 h2
        subst h1
        subst h2
        exact ⟨[], .nil, rfl⟩
      · obtain ⟨la7, lm7, lc7, ls7, hL7, rfl, rfl⟩ := hL
        try simp only [List.cons_append, List.nil_append] at hH
        subst hH
        try dsimp only [cond_true, cond_false, Bool.true_or, Bool.false_or] at hP
        refine SPL_y (y_move rfl) rfl ?_
        refine SPL_y (y_ext rfl rfl) rfl ?_
        refine SPL_y (y_ext rfl rfl) rfl ?_
        refine SPL_y (y_nil rfl) rfl ?_
        refine SPL_y (y_fa fld_368_2 rfl) rfl ?_
        refine SPL_one rfl (SP1_store Tryz.sizeOf172 rfl rfl rfl (by first | exact U0 | exact U1 | exact U2 | exact U3 | exact U4 | exact U5 | exact U6 | exact U7 | exact U8 | exact U9 | exact U10 | exact U11 | exact U12 | exact U13 | exact U14 | exact U15 | exact U16 | exact U17 | exact U18 | exact U19 | exact U20 | exact U21 | exact U22 | exact U23) (by rfl) ?_)
        refine SPL_y (y_assign rfl) rfl ?_
        refine SPL_nil ?_
        refine thenP_n ?_
        refine SP_seq ?_
        refine SP_seq ?_
        refine SP_region ?_
        refine SPL_y (y_move rfl) rfl ?_
        refine SPL_y (y_not_t rfl) rfl ?_
        refine SPL_nil ?_
        refine thenP_n ?_
        refine SP_cond_f rfl ?_
        refine SP_skip ?_
        refine thenP_n ?_
        refine SP_seq ?_
        refine SP_seq ?_
        refine SP_region ?_
        refine SPL_y (y_move rfl) rfl ?_
        refine SPL_y (y_nil rfl) rfl ?_
        refine SPL_y (y_fa fld_170_2 rfl) rfl ?_
        refine SPL_y (y_fa fld_156_0 rfl) rfl ?_
        refine SPL_y (y_load Tryz.isAgg154 rfl (by repeat (first | exact Cell.amid hpre rfl | exact Cell.head rfl | apply Cell.tail))) rfl ?_
        refine SPL_if (y_eql rfl rfl) rfl ?_ ?_
        · intro h10_5
          first | rw [if_pos h10_5] at hP | rw [if_neg h10_5] at hP | skip
          refine SPL_nil ?_
          refine thenP_n ?_
          refine SP_cond_t rfl ?_
          refine SP_seq ?_
          refine SP_region ?_
          refine SPL_y (y_move rfl) rfl ?_
          refine SPL_y (y_move rfl) rfl ?_
          refine SPL_y (y_sub rfl rfl (by omega)) rfl ?_
          obtain ⟨t11, s11, hq11, hP⟩ := bnd2 hP
          refine SPL_one rfl (SP1_call (hr.branch _ _ _ _ hq11) Tryz.call188 rfl rfl (by repeat (first | exact Part.nil _ | (apply Part.cons; (first | exact P0 | exact P1 | exact P2 | exact P3 | exact P4 | exact P5 | exact P6 | exact P7 | exact P8 | exact P9 | exact P10 | exact P11 | exact P12 | exact P13 | exact P14 | exact P15 | exact P16 | exact P17 | exact P18 | exact P19 | exact P20 | exact P21 | exact P22 | exact P23)) | (apply Part.flat; simp only [List.cons_append, List.nil_append]) | (apply Part.nilc))) ?_)
          rintro v11 post H' ⟨sn11, hN11, rfl⟩ hH
          try simp only [List.cons_append, List.nil_append] at hH
          subst hH
          refine SPL_y (y_assign rfl) rfl ?_
          refine SPL_nil ?_
          refine thenP_n ?_
          refine SP_seq ?_
          refine SP_seq ?_
          refine SP_region ?_
          refine SPL_y (y_move rfl) rfl ?_
          refine SPL_if (y_nE Tryz.underlying231 rfl (by assumption)) rfl ?_ ?_
          · intro h12_1
            first | rw [if_pos h12_1] at hP | rw [if_neg h12_1] at hP | skip
            refine SPL_nil ?_
            refine thenP_n ?_
            refine SP_cond_t rfl ?_
            refine SP_seq ?_
            refine SP_region ?_
            refine SPL_y (y_assign rfl) rfl ?_
            refine SPL_nil ?_
            refine thenP_n ?_
            refine SP_ret ?_
            refine thenP_ret (thenP_ret (bodyP_ret (H' := [x.gs, x.b _, x.st, []]) (Res1 rfl rfl) (by repeat (first | exact Part.nil _ | (apply Part.cons; (first | exact P0 | exact P1 | exact P2 | exact P3 | exact P4 | exact P5 | exact P6 | exact P7 | exact P8 | exact P9 | exact P10 | exact P11 | exact P12 | exact P13 | exact P14 | exact P15 | exact P16 | exact P17 | exact P18 | exact P19 | exact P20 | exact P21 | exact P22 | exact P23)) | (apply Part.flat; simp only [List.cons_append, List.nil_append]) | (apply Part.nilc))) ?_))
            injection hP with hP
            injection hP with h1 h2
            subst h1
            subst h2
            exact ⟨[], .nil, rfl⟩
          intro h12_1
          first | rw [if_neg h12_1] at hP | rw [if_pos (Decidable.not_not.1 h12_1)] at hP | skip
          obtain ⟨nb11, rfl⟩ := hN11.shape (by simpa using h12_1)
          refine SPL_nil ?_
          refine thenP_n ?_
          refine SP_cond_f rfl ?_
          refine SP_skip ?_
          refine thenP_n ?_
          refine SP_seq ?_
          refine SP_region ?_
          refine SPL_y (y_move rfl) rfl ?_
          refine SPL_y (y_move rfl) rfl ?_
          refine SPL_one rfl (SP1_slice1 el_172 rfl rfl rfl rfl rfl ?_)
          intro b60
          refine SPL_y (y_nil rfl) rfl ?_
          refine SPL_y (y_fa fld_368_3 rfl) rfl ?_
          refine SPL_one rfl (SP1_store Tryz.sizeOf172 rfl rfl rfl (by first | exact U0 | exact U1 | exact U2 | exact U3 | exact U4 | exact U5 | exact U6 | exact U7 | exact U8 | exact U9 | exact U10 | exact U11 | exact U12 | exact U13 | exact U14 | exact U15 | exact U16 | exact U17 | exact U18 | exact U19 | exact U20 | exact U21 | exact U22 | exact U23) (by rfl) ?_)
          refine SPL_nil ?_
          refine thenP_n ?_
          refine SP_seq ?_
          refine SP_region ?_
          refine SPL_y (y_move rfl) rfl ?_
          refine SPL_y (y_mki Tryz.underlying366 rfl rfl) rfl ?_
          refine SPL_y (y_assign rfl) rfl ?_
          refine SPL_nil ?_
          refine thenP_n ?_
          refine SP_ret ?_
          refine thenP_ret (bodyP_ret (H' := [x.gs, x.b s11, x.st, List.flatten [blk b14 368 [I s.cur.at_, .iface t3.ty (pt nb3), .slice la7 lm7 lc7, .slice (some ⟨b60, 0, none⟩) 1 1], sn3, ls7, List.flatten [blk b60 236 [.iface t11.ty (pt nb11)], List.flatten [sn11]]]]) (Res1 rfl rfl) (by repeat (first | exact Part.nil _ | (apply Part.cons; (first | exact P0 | exact P1 | exact P2 | exact P3 | exact P4 | exact P5 | exact P6 | exact P7 | exact P8 | exact P9 | exact P10 | exact P11 | exact P12 | exact P13 | exact P14 | exact P15 | exact P16 | exact P17 | exact P18 | exact P19 | exact P20 | exact P21 | exact P22 | exact P23)) | (apply Part.flat; simp only [List.cons_append, List.nil_append]) | (apply Part.nilc))) ?_)
          injection hP with hP
          injection hP with h1 h2
          subst h1
          subst h2
          exact ⟨_, .ife hN3 hL7 (IsL.mk (.cons hN11 .nil) (Arr.full rfl)), rfl⟩
        intro h10_5
        first | rw [if_neg h10_5] at hP | rw [if_pos (Decidable.not_not.1 h10_5)] at hP | skip
        refine SPL_nil ?_
        refine thenP_n ?_
        refine SP_cond_f rfl ?_
        refine SP_skip ?_
        refine thenP_n ?_
        refine SP_seq ?_
        refine SP_seq ?_
        refine SP_region ?_
        refine SPL_y (y_move rfl) rfl ?_
        obtain ⟨b16, s16, hq16, hP⟩ := bnd2 hP
        refine SPL_one rfl (SP1_call (pr_accept x hq16) Tryz.call241 rfl rfl (by repeat (first | exact Part.nil _ | (apply Part.cons; (first | exact P0 | exact P1 | exact P2 | exact P3 | exact P4 | exact P5 | exact P6 | exact P7 | exact P8 | exact P9 | exact P10 | exact P11 | exact P12 | exact P13 | exact P14 | exact P15 | exact P16 | exact P17 | exact P18 | exact P19 | exact P20 | exact P21 | exact P22 | exact P23)) | (apply Part.flat; simp only [List.cons_append, List.nil_append]) | (apply Part.nilc))) ?_)
        rintro v post H' ⟨rfl, rfl⟩ hH
        rcases b16 with _ | _
        · try simp only [List.cons_append, List.nil_append] at hH
          subst hH
          try dsimp only [cond_true, cond_false, Bool.true_or, Bool.false_or] at hP
          refine SPL_nil ?_
          refine thenP_n ?_
          refine SP_cond_f rfl ?_
          refine SP_skip ?_
          refine thenP_n ?_
          refine SP_seq ?_
          refine SP_seq ?_
          refine SP_region ?_
          refine SPL_y (y_move rfl) rfl ?_
          obtain ⟨b20, s20, hq20, hP⟩ := bnd2 hP
          refine SPL_one rfl (SP1_call (pr_expect x hq20) Tryz.call242 rfl rfl (by repeat (first | exact Part.nil _ | (apply Part.cons; (first | exact P0 | exact P1 | exact P2 | exact P3 | exact P4 | exact P5 | exact P6 | exact P7 | exact P8 | exact P9 | exact P10 | exact P11 | exact P12 | exact P13 | exact P14 | exact P15 | exact P16 | exact P17 | exact P18 | exact P19 | exact P20 | exact P21 | exact P22 | exact P23)) | (apply Part.flat; simp only [List.cons_append, List.nil_append]) | (apply Part.nilc))) ?_)
          rintro v post H' ⟨rfl, rfl⟩ hH
          rcases b20 with _ | _
          · try simp only [List.cons_append, List.nil_append] at hH
            subst hH
            try dsimp only [cond_true, cond_false, Bool.true_or, Bool.false_or] at hP
            refine SPL_y (y_not_f rfl) rfl ?_
            refine SPL_nil ?_
            refine thenP_n ?_
            refine SP_cond_t rfl ?_
            refine SP_seq ?_
            refine SP_region ?_
            refine SPL_y (y_assign rfl) rfl ?_
            refine SPL_nil ?_
            refine thenP_n ?_
            refine SP_ret ?_
            refine thenP_ret (bodyP_ret (H' := [x.gs, x.b _, x.st, []]) (Res1 rfl rfl) (by repeat (first | exact Part.nil _ | (apply Part.cons; (first | exact P0 | exact P1 | exact P2 | exact P3 | exact P4 | exact P5 | exact P6 | exact P7 | exact P8 | exact P9 | exact P10 | exact P11 | exact P12 | exact P13 | exact P14 | exact P15 | exact P16 | exact P17 | exact P18 | exact P19 | exact P20 | exact P21 | exact P22 | exact P23)) | (apply Part.flat; simp only [List.cons_append, List.nil_append]) | (apply Part.nilc))) ?_)
            injection hP with hP
            injection hP with h1 h2
            subst h1
            subst h2
            exact ⟨[], .nil, rfl⟩
          · try simp only [List.cons_append, List.nil_append] at hH
            subst hH
            try dsimp only [cond_true, cond_false, Bool.true_or, Bool.false_or] at hP
            refine SPL_y (y_not_t rfl) rfl ?_
            refine SPL_nil ?_
            refine thenP_n ?_
            refine SP_cond_f rfl ?_
            refine SP_skip ?_
            refine thenP_n ?_
            refine SP_seq ?_
            refine SP_region ?_
            refine SPL_y (y_move rfl) rfl ?_
            refine SPL_y (y_mki Tryz.underlying366 rfl rfl) rfl ?_
            refine SPL_y (y_assign rfl) rfl ?_
            refine SPL_nil ?_
            refine thenP_n ?_
            refine SP_ret ?_
            refine bodyP_ret (H' := [x.gs, x.b s20, x.st, List.flatten [blk b14 368 [I s.cur.at_, .iface t3.ty (pt nb3), .slice la7 lm7 lc7, .slice none 0 0], sn3, ls7, []]]) (Res1 rfl rfl) (by repeat (first | exact Part.nil _ | (apply Part.cons; (first | exact P0 | exact P1 | exact P2 | exact P3 | exact P4 | exact P5 | exact P6 | exact P7 | exact P8 | exact P9 | exact P10 | exact P11 | exact P12 | exact P13 | exact P14 | exact P15 | exact P16 | exact P17 | exact P18 | exact P19 | exact P20 | exact P21 | exact P22 | exact P23)) | (apply Part.flat; simp only [List.cons_append, List.nil_append]) | (apply Part.nilc))) ?_
            injection hP with hP
            injection hP with h1 h2
            subst h1
            subst h2
            exact ⟨_, .ife hN3 hL7 IsL.nil, rfl⟩
        · try simp only [List.cons_append, List.nil_append] at hH
          subst hH
          try dsimp only [cond_true, cond_false, Bool.true_or, Bool.false_or] at hP
          refine SPL_nil ?_
          refine thenP_n ?_
          refine SP_cond_t rfl ?_
          refine SP_seq ?_
          refine SP_region ?_
          refine SPL_y (y_move rfl) rfl ?_
          refine SPL_y (y_move rfl) rfl ?_
          refine SPL_y (y_move rfl) rfl ?_
          refine SPL_y (y_sub rfl rfl (by omega)) rfl ?_
          obtain ⟨r17, s17, hq17, hP⟩ := bnd2 hP
          refine SPL_one rfl (SP1_call (hr.block _ _ _ _ hq17) Tryz.call69 rfl rfl (by repeat (first | exact Part.nil _ | (apply Part.cons; (first | exact P0 | exact P1 | exact P2 | exact P3 | exact P4 | exact P5 | exact P6 | exact P7 | exact P8 | exact P9 | exact P10 | exact P11 | exact P12 | exact P13 | exact P14 | exact P15 | exact P16 | exact P17 | exact P18 | exact P19 | exact P20 | exact P21 | exact P22 | exact P23)) | (apply Part.flat; simp only [List.cons_append, List.nil_append]) | (apply Part.nilc))) ?_)
          rintro v post H' hL hH
          rcases r17 with _ | l17
          · obtain ⟨rfl, rfl⟩ := hL
            try simp only [List.cons_append, List.nil_append] at hH
            subst hH
            try dsimp only [cond_true, cond_false, Bool.true_or, Bool.false_or] at hP
            refine SPL_y (y_move rfl) rfl ?_
            refine SPL_y (y_ext rfl rfl) rfl ?_
            refine SPL_y (y_ext rfl rfl) rfl ?_
            refine SPL_y (y_nil rfl) rfl ?_
            refine SPL_y (y_fa fld_368_3 rfl) rfl ?_
            refine SPL_one rfl (SP1_store Tryz.sizeOf172 rfl rfl rfl (by first | exact U0 | exact U1 | exact U2 | exact U3 | exact U4 | exact U5 | exact U6 | exact U7 | exact U8 | exact U9 | exact U10 | exact U11 | exact U12 | exact U13 | exact U14 | exact U15 | exact U16 | exact U17 | exact U18 | exact U19 | exact U20 | exact U21 | exact U22 | exact U23) (by rfl) ?_)
            refine SPL_y (y_assign rfl) rfl ?_
            refine SPL_nil ?_
            refine thenP_n ?_
            refine SP_seq ?_
            refine SP_region ?_
            refine SPL_y (y_move rfl) rfl ?_
            refine SPL_y (y_not_f rfl) rfl ?_
            refine SPL_nil ?_
            refine thenP_n ?_
            refine SP_cond_t rfl ?_
            refine SP_seq ?_
            refine SP_region ?_
            refine SPL_y (y_assign rfl) rfl ?_
            refine SPL_nil ?_
            refine thenP_n ?_
            refine SP_ret ?_
            refine thenP_ret (bodyP_ret (H' := [x.gs, x.b _, x.st, []]) (Res1 rfl rfl) (by repeat (first | exact Part.nil _ | (apply Part.cons; (first | exact P0 | exact P1 | exact P2 | exact P3 | exact P4 | exact P5 | exact P6 | exact P7 | exact P8 | exact P9 | exact P10 | exact P11 | exact P12 | exact P13 | exact P14 | exact P15 | exact P16 | exact P17 | exact P18 | exact P19 | exact P20 | exact P21 | exact P22 | exact P23)) | (apply Part.flat; simp only [List.cons_append, List.nil_append]) | (apply Part.nilc))) ?_)
            injection hP with hP
            injection hP with h1 h2
            subst h1
            subst h2
            exact ⟨[], .nil, rfl⟩
          · obtain ⟨la17, lm17, lc17, ls17, hL17, rfl, rfl⟩ := hL
            try simp only [List.cons_append, List.nil_append] at hH
            subst hH
            try dsimp only [cond_true, cond_false, Bool.true_or, Bool.false_or] at hP
            refine SPL_y (y_move rfl) rfl ?_
            refine SPL_y (y_ext rfl rfl) rfl ?_
            refine SPL_y (y_ext rfl rfl) rfl ?_
            refine SPL_y (y_nil rfl) rfl ?_
            refine SPL_y (y_fa fld_368_3 rfl) rfl ?_
            refine SPL_one rfl (SP1_store Tryz.sizeOf172 rfl rfl rfl (by first | exact U0 | exact U1 | exact U2 | exact U3 | exact U4 | exact U5 | exact U6 | exact U7 | exact U8 | exact U9 | exact U10 | exact U11 | exact U12 | exact U13 | exact U14 | exact U15 | exact U16 | exact U17 | exact U18 | exact U19 | exact U20 | exact U21 | exact U22 | exact U23) (by rfl) ?_)
            refine SPL_y (y_assign rfl) rfl ?_
            refine SPL_nil ?_
            refine thenP_n ?_
            refine SP_seq ?_
            refine SP_region ?_
            refine SPL_y (y_move rfl) rfl ?_
            refine SPL_y (y_not_t rfl) rfl ?_
            refine SPL_nil ?_
            refine thenP_n ?_
            refine SP_cond_f rfl ?_
            refine SP_skip ?_
            refine thenP_n ?_
            refine SP_seq ?_
            refine SP_seq ?_
            refine SP_region ?_
            refine SPL_y (y_move rfl) rfl ?_
            obtain ⟨b20, s20, hq20, hP⟩ := bnd2 hP
            refine SPL_one rfl (SP1_call (pr_expect x hq20) Tryz.call242 rfl rfl (by repeat (first | exact Part.nil _ | (apply Part.cons; (first | exact P0 | exact P1 | exact P2 | exact P3 | exact P4 | exact P5 | exact P6 | exact P7 | exact P8 | exact P9 | exact P10 | exact P11 | exact P12 | exact P13 | exact P14 | exact P15 | exact P16 | exact P17 | exact P18 | exact P19 | exact P20 | exact P21 | exact P22 | exact P23)) | (apply Part.flat; simp only [List.cons_append, List.nil_append]) | (apply Part.nilc))) ?_)
            rintro v post H' ⟨rfl, rfl⟩ hH
            rcases b20 with _ | _
            · try simp only [List.cons_append, List.nil_append] at hH
              subst hH
              try dsimp only [cond_true, cond_false, Bool.true_or, Bool.false_or] at hP
              refine SPL_y (y_not_f rfl) rfl ?_
              refine SPL_nil ?_
              refine thenP_n ?_
              refine SP_cond_t rfl ?_
              refine SP_seq ?_
              refine SP_region ?_
              refine SPL_y (y_assign rfl) rfl ?_
              refine SPL_nil ?_
              refine thenP_n ?_
              refine SP_ret ?_
              refine thenP_ret (bodyP_ret (H' := [x.gs, x.b _, x.st, []]) (Res1 rfl rfl) (by repeat (first | exact Part.nil _ | (apply Part.cons; (first | exact P0 | exact P1 | exact P2 | exact P3 | exact P4 | exact P5 | exact P6 | exact P7 | exact P8 | exact P9 | exact P10 | exact P11 | exact P12 | exact P13 | exact P14 | exact P15 | exact P16 | exact P17 | exact P18 | exact P19 | exact P20 | exact P21 | exact P22 | exact P23)) | (apply Part.flat; simp only [List.cons_append, List.nil_append]) | (apply Part.nilc))) ?_)
              injection hP with hP
              injection hP with h1 h2
              subst h1
              subst h2
              exact ⟨[], .nil, rfl⟩
            · try simp only [List.cons_append, List.nil_append] at hH
              subst hH
              try dsimp only [cond_true, cond_false, Bool.true_or, Bool.false_or] at hP
              refine SPL_y (y_not_t rfl) rfl ?_
              refine SPL_nil ?_
              refine thenP_n ?_
              refine SP_cond_f rfl ?_
              refine SP_skip ?_
              refine thenP_n ?_
              refine SP_seq ?_
              refine SP_region ?_
              refine SPL_y (y_move rfl) rfl ?_
              refine SPL_y (y_mki Tryz.underlying366 rfl rfl) rfl ?_
              refine SPL_y (y_assign rfl) rfl ?_
              refine SPL_nil ?_
              refine thenP_n ?_
              refine SP_ret ?_
              refine bodyP_ret (H' := [x.gs, x.b s20, x.st, List.flatten [blk b14 368 [I s.cur.at_, .iface t3.ty (pt nb3), .slice la7 lm7 lc7, .slice la17 lm17 lc17], sn3, ls7, ls17]]) (Res1 rfl rfl) (by repeat (first | exact Part.nil _ | (apply Part.cons; (first | exact P0 | exact P1 | exact P2 | exact P3 | exact P4 | exact P5 | exact P6 | exact P7 | exact P8 | exact P9 | exact P10 | exact P11 | exact P12 | exact P13 | exact P14 | exact P15 | exact P16 | exact P17 | exact P18 | exact P19 | exact P20 | exact P21 | exact P22 | exact P23)) | (apply Part.flat; simp only [List.cons_append, List.nil_append]) | (apply Part.nilc))) ?_
              injection hP with hP
              injection hP with h1 h2
              subst h1
              subst h2
              exact ⟨_, .ife hN3 hL7 hL17, rfl⟩

theorem pr_loopFor (x : PX) (rc : Rec) (hr : RecOk x rc) {room : Int} {s s' : PS} {t : T} (hP : loopForP x.toks rc room s = some (t, s')) : Spec Tryz.prog 189 [pt x.p, I room] [x.gs, x.b s, x.st] (Ret (ndOk x t s')) := by
  unfold loopForP at hP
  obtain ⟨hrm, hP⟩ := grd hP
  refine Spec_enter Tryz.func189 rfl Tryz.ntmps189 rfl ?_
  show SP _ _ _ _ _ [(0, _), (1, _)] _
  refine SP_seq ?_
  refine SP_region ?_
  refine SPL_y (y_assign rfl) rfl ?_
  refine SPL_nil ?_
  refine thenP_n ?_
  refine SP_seq ?_
  refine SP_region ?_
  refine SPL_y (y_move rfl) rfl ?_
  obtain ⟨r1, s1, hq1, hP⟩ := bnd2 hP
  refine SPL_one rfl (SP1_call (pr_name x (by omega) hq1) Tryz.call239 rfl rfl (by repeat (first | exact Part.nil _ | (apply Part.cons; (first | exact P0 | exact P1 | exact P2 | exact P3 | exact P4 | exact P5 | exact P6 | exact P7 | exact P8 | exact P9 | exact P10 | exact P11 | exact P12 | exact P13 | exact P14 | exact P15 | exact P16 | exact P17 | exact P18 | exact P19 | exact P20 | exact P21 | exact P22 | exact P23)) | (apply Part.flat; simp only [List.cons_append, List.nil_append]) | (apply Part.nilc))) ?_)
  rintro v post H' hL hH
  rcases r1 with _ | ⟨na1, nt1⟩
  · obtain ⟨rfl, rfl⟩ := hL
    try simp only [List.cons_append, List.nil_append] at hH
    subst hH
    try dsimp only [cond_true, cond_false, Bool.true_or, Bool.false_or] at hP
    refine SPL_y (y_assign rfl) rfl ?_
    refine SPL_nil ?_
    refine thenP_n ?_
    refine SP_seq ?_
    refine SP_seq ?_
    refine SP_region ?_
    refine SPL_y (y_move rfl) rfl ?_
    refine SPL_y (y_peql_F Tryz.underlying307 rfl rfl) rfl ?_
    refine SPL_nil ?_
    refine thenP_n ?_
    refine SP_cond_t rfl ?_
    refine SP_seq ?_
    refine SP_region ?_
    refine SPL_y (y_assign rfl) rfl ?_
    refine SPL_nil ?_
    refine thenP_n ?_
    refine SP_ret ?_
    refine thenP_ret (bodyP_ret (H' := [x.gs, x.b _, x.st, []]) (Res1 rfl rfl) (by repeat (first | exact Part.nil _ | (apply Part.cons; (first | exact P0 | exact P1 | exact P2 | exact P3 | exact P4 | exact P5 | exact P6 | exact P7 | exact P8 | exact P9 | exact P10 | exact P11 | exact P12 | exact P13 | exact P14 | exact P15 | exact P16 | exact P17 | exact P18 | exact P19 | exact P20 | exact P21 | exact P22 | exact P23)) | (apply Part.flat; simp only [List.cons_append, List.nil_append]) | (apply Part.nilc))) ?_)
    injection hP with hP
    injection hP with h1 h2
    subst h1
    subst h2
    exact ⟨[], .nil, rfl⟩
  · obtain ⟨nb1, rfl, rfl⟩ := hL
    try simp only [List.cons_append, List.nil_append] at hH
    subst hH
    try dsimp only [cond_true, cond_false, Bool.true_or, Bool.false_or] at hP
    refine SPL_y (y_assign rfl) rfl ?_
    refine SPL_nil ?_
    refine thenP_n ?_
    refine SP_seq ?_
    refine SP_seq ?_
    refine SP_region ?_
    refine SPL_y (y_move rfl) rfl ?_
    refine SPL_y (y_peql_T Tryz.underlying307 rfl rfl) rfl ?_
    refine SPL_nil ?_
    refine thenP_n ?_
    refine SP_cond_f rfl ?_
    refine SP_skip ?_
    refine thenP_n ?_
    refine SP_seq ?_
    refine SP_seq ?_
    refine SP_region ?_
    refine SPL_y (y_move rfl) rfl ?_
    obtain ⟨b4, s4, hq4, hP⟩ := bnd2 hP
    refine SPL_one rfl (SP1_call (pr_accept x hq4) Tryz.call241 rfl rfl (by repeat (first | exact Part.nil _ | (apply Part.cons; (first | exact P0 | exact P1 | exact P2 | exact P3 | exact P4 | exact P5 | exact P6 | exact P7 | exact P8 | exact P9 | exact P10 | exact P11 | exact P12 | exact P13 | exact P14 | exact P15 | exact P16 | exact P17 | exact P18 | exact P19 | exact P20 | exact P21 | exact P22 | exact P23)) | (apply Part.flat; simp only [List.cons_append, List.nil_append]) | (apply Part.nilc))) ?_)
    rintro v post H' ⟨rfl, rfl⟩ hH
    rcases b4 with _ | _
    · try simp only [List.cons_append, List.nil_append] at hH
      subst hH
      try dsimp only [cond_true, cond_false, Bool.true_or, Bool.false_or] at hP
      refine SPL_nil ?_
      refine thenP_n ?_
      refine SP_cond_f rfl ?_
      refine SP_skip ?_
      refine thenP_n ?_
      refine SP_seq ?_
      refine SP_seq ?_
      refine SP_region ?_
      refine SPL_y (y_move rfl) rfl ?_
      obtain ⟨b15, s15, hq15, hP⟩ := bnd2 hP
      refine SPL_one rfl (SP1_call (pr_expect x hq15) Tryz.call242 rfl rfl (by repeat (first | exact Part.nil _ | (apply Part.cons; (first | exact P0 | exact P1 | exact P2 | exact P3 | exact P4 | exact P5 | exact P6 | exact P7 | exact P8 | exact P9 | exact P10 | exact P11 | exact P12 | exact P13 | exact P14 | exact P15 | exact P16 | exact P17 | exact P18 | exact P19 | exact P20 | exact P21 | exact P22 | exact P23)) | (apply Part.flat; simp only [List.cons_append, List.nil_append]) | (apply Part.nilc))) ?_)
      rintro v post H' ⟨rfl, rfl⟩ hH
      rcases b15 with _ | _
      · try simp only [List.cons_append, List.nil_append] at hH
        subst hH
        try dsimp only [cond_true, cond_false, Bool.true_or, Bool.false_or] at hP
        refine SPL_y (y_not_f rfl) rfl ?_
        refine SPL_nil ?_
        refine thenP_n ?_
        refine SP_cond_t rfl ?_
        refine SP_seq ?_
        refine SP_region ?_
        refine SPL_y (y_assign rfl) rfl ?_
        refine SPL_nil ?_
        refine thenP_n ?_
        refine SP_ret ?_
        refine thenP_ret (bodyP_ret (H' := [x.gs, x.b _, x.st, []]) (Res1 rfl rfl) (by repeat (first | exact Part.nil _ | (apply Part.cons; (first | exact P0 | exact P1 | exact P2 | exact P3 | exact P4 | exact P5 | exact P6 | exact P7 | exact P8 | exact P9 | exact P10 | exact P11 | exact P12 | exact P13 | exact P14 | exact P15 | exact P16 | exact P17 | exact P18 | exact P19 | exact P20 | exact P21 | exact P22 | exact P23)) | (apply Part.flat; simp only [List.cons_append, List.nil_append]) | (apply Part.nilc))) ?_)
        injection hP with hP
        injection hP with h1 h2
        subst h1
        subst h2
        exact ⟨[], .nil, rfl⟩
      · try simp only [List.cons_append, List.nil_append] at hH
        subst hH
        try dsimp only [cond_true, cond_false, Bool.true_or, Bool.false_or] at hP
        refine SPL_y (y_not_t rfl) rfl ?_
        refine SPL_nil ?_
        refine thenP_n ?_
        refine SP_cond_f rfl ?_
        refine SP_skip ?_
        refine thenP_n ?_
        refine SP_seq ?_
        refine SP_region ?_
        refine SPL_y (y_move rfl) rfl ?_
        refine SPL_y (y_move rfl) rfl ?_
        refine SPL_y (y_sub rfl rfl (by omega)) rfl ?_
        obtain ⟨t17, s17, hq17, hP⟩ := bnd2 hP
        refine SPL_one rfl (SP1_call (hr.expr _ _ _ _ _ hq17) Tryz.call190 rfl rfl (by repeat (first | exact Part.nil _ | (apply Part.cons; (first | exact P0 | exact P1 | exact P2 | exact P3 | exact P4 | exact P5 | exact P6 | exact P7 | exact P8 | exact P9 | exact P10 | exact P11 | exact P12 | exact P13 | exact P14 | exact P15 | exact P16 | exact P17 | exact P18 | exact P19 | exact P20 | exact P21 | exact P22 | exact P23)) | (apply Part.flat; simp only [List.cons_append, List.nil_append]) | (apply Part.nilc))) ?_)
        rintro v17 post H' ⟨sn17, hN17, rfl⟩ hH
        try simp only [List.cons_append, List.nil_append] at hH
        subst hH
        refine SPL_y (y_assign rfl) rfl ?_
        refine SPL_nil ?_
        refine thenP_n ?_
        refine SP_seq ?_
        refine SP_seq ?_
        refine SP_region ?_
        refine SPL_y (y_move rfl) rfl ?_
        refine SPL_if (y_nE Tryz.underlying292 rfl (by assumption)) rfl ?_ ?_
        · intro h18_1
          first | rw [if_pos h18_1] at hP | rw [if_neg h18_1] at hP | skip
          refine SPL_y (y_move rfl) rfl ?_
          refine SPL_gn rfl rfl rfl rfl ?_
          refine SPL_gn rfl rfl rfl rfl ?_
          refine SPL_gn rfl rfl rfl rfl ?_
          refine SPL_y (y_pick_t rfl rfl) rfl ?_
          refine SPL_nil ?_
          refine thenP_n ?_
          refine SP_cond_t rfl ?_
          refine SP_seq ?_
          refine SP_region ?_
          refine SPL_y (y_assign rfl) rfl ?_
          refine SPL_nil ?_
          refine thenP_n ?_
          refine SP_ret ?_
          refine thenP_ret (bodyP_ret (H' := [x.gs, x.b _, x.st, []]) (Res1 rfl rfl) (by repeat (first | exact Part.nil _ | (apply Part.cons; (first | exact P0 | exact P1 | exact P2 | exact P3 | exact P4 | exact P5 | exact P6 | exact P7 | exact P8 | exact P9 | exact P10 | exact P11 | exact P12 | exact P13 | exact P14 | exact P15 | exact P16 | exact P17 | exact P18 | exact P19 | exact P20 | exact P21 | exact P22 | exact P23)) | (apply Part.flat; simp only [List.cons_append, List.nil_append]) | (apply Part.nilc))) ?_)
          injection hP with hP
          injection hP with h1 h2
          subst h1
          subst h2
          exact ⟨[], .nil, rfl⟩
        intro h18_1
        first | rw [if_neg h18_1] at hP | rw [if_pos (Decidable.not_not.1 h18_1)] at hP | skip
        obtain ⟨nb17, rfl⟩ := hN17.shape (by simpa using h18_1)
        refine SPL_y (y_move rfl) rfl ?_
        refine SPL_gy rfl rfl ?_
        refine SPL_y (y_move rfl) rfl ?_
        refine SPL_gy rfl rfl ?_
        obtain ⟨b18, s18, hq18, hP⟩ := bnd2 hP
        refine SPL_one rfl (SP1_call (pr_expect x hq18) Tryz.call242 rfl rfl (by repeat (first | exact Part.nil _ | (apply Part.cons; (first | exact P0 | exact P1 | exact P2 | exact P3 | exact P4 | exact P5 | exact P6 | exact P7 | exact P8 | exact P9 | exact P10 | exact P11 | exact P12 | exact P13 | exact P14 | exact P15 | exact P16 | exact P17 | exact P18 | exact P19 | exact P20 | exact P21 | exact P22 | exact P23)) | (apply Part.flat; simp only [List.cons_append, List.nil_append]) | (apply Part.nilc))) ?_)
        rintro v post H' ⟨rfl, rfl⟩ hH
        rcases b18 with _ | _
        · try simp only [List.cons_append, List.nil_append] at hH
          subst hH
          try dsimp only [cond_true, cond_false, Bool.true_or, Bool.false_or] at hP
          refine SPL_gy rfl rfl ?_
          refine SPL_y (y_not_f rfl) rfl ?_
          refine SPL_y (y_pick_f rfl rfl) rfl ?_
          refine SPL_nil ?_
          refine thenP_n ?_
          refine SP_cond_t rfl ?_
          refine SP_seq ?_
          refine SP_region ?_
          refine SPL_y (y_assign rfl) rfl ?_
          refine SPL_nil ?_
          refine thenP_n ?_
          refine SP_ret ?_
          refine thenP_ret (bodyP_ret (H' := [x.gs, x.b _, x.st, []]) (Res1 rfl rfl) (by repeat (first | exact Part.nil _ | (apply Part.cons; (first | exact P0 | exact P1 | exact P2 | exact P3 | exact P4 | exact P5 | exact P6 | exact P7 | exact P8 | exact P9 | exact P10 | exact P11 | exact P12 | exact P13 | exact P14 | exact P15 | exact P16 | exact P17 | exact P18 | exact P19 | exact P20 | exact P21 | exact P22 | exact P23)) | (apply Part.flat; simp only [List.cons_append, List.nil_append]) | (apply Part.nilc))) ?_)
          injection hP with hP
          injection hP with h1 h2
          subst h1
          subst h2
          exact ⟨[], .nil, rfl⟩
        · try simp only [List.cons_append, List.nil_append] at hH
          subst hH
          try dsimp only [cond_true, cond_false, Bool.true_or, Bool.false_or] at hP
          refine SPL_gy rfl rfl ?_
          refine SPL_y (y_not_t rfl) rfl ?_
          refine SPL_y (y_pick_f rfl rfl) rfl ?_
          refine SPL_nil ?_
          refine thenP_n ?_
          refine SP_cond_f rfl ?_
          refine SP_skip ?_
          refine thenP_n ?_
          refine SP_seq ?_
          refine SP_region ?_
          refine SPL_y (y_move rfl) rfl ?_
          refine SPL_y (y_move rfl) rfl ?_
          refine SPL_y (y_sub rfl rfl (by omega)) rfl ?_
          obtain ⟨t20, s20, hq20, hP⟩ := bnd2 hP
          refine SPL_one rfl (SP1_call (hr.expr _ _ _ _ _ hq20) Tryz.call190 rfl rfl (by repeat (first | exact Part.nil _ | (apply Part.cons; (first | exact P0 | exact P1 | exact P2 | exact P3 | exact P4 | exact P5 | exact P6 | exact P7 | exact P8 | exact P9 | exact P10 | exact P11 | exact P12 | exact P13 | exact P14 | exact P15 | exact P16 | exact P17 | exact P18 | exact P19 | exact P20 | exact P21 | exact P22 | exact P23)) | (apply Part.flat; simp only [List.cons_append, List.nil_append]) | (apply Part.nilc))) ?_)
          rintro v20 post H' ⟨sn20, hN20, rfl⟩ hH
          try simp only [List.cons_append, List.nil_append] at hH
          subst hH
          refine SPL_y (y_assign rfl) rfl ?_
          refine SPL_nil ?_
          refine thenP_n ?_
          refine SP_seq ?_
          refine SP_seq ?_
          refine SP_region ?_
          refine SPL_y (y_move rfl) rfl ?_
          refine SPL_if (y_nE Tryz.underlying292 rfl (by assumption)) rfl ?_ ?_
          · intro h21_1
            first | rw [if_pos h21_1] at hP | rw [if_neg h21_1] at hP | skip
            refine SPL_nil ?_
            refine thenP_n ?_
            refine SP_cond_t rfl ?_
            refine SP_seq ?_
            refine SP_region ?_
            refine SPL_y (y_assign rfl) rfl ?_
            refine SPL_nil ?_
            refine thenP_n ?_
            refine SP_ret ?_
            refine thenP_ret (bodyP_ret (H' := [x.gs, x.b _, x.st, []]) (Res1 rfl rfl) (by repeat (first | exact Part.nil _ | (apply Part.cons; (first | exact P0 | exact P1 | exact P2 | exact P3 | exact P4 | exact P5 | exact P6 | exact P7 | exact P8 | exact P9 | exact P10 | exact P11 | exact P12 | exact P13 | exact P14 | exact P15 | exact P16 | exact P17 | exact P18 | exact P19 | exact P20 | exact P21 | exact P22 | exact P23)) | (apply Part.flat; simp only [List.cons_append, List.nil_append]) | (apply Part.nilc))) ?_)
            injection hP with hP
            injection hP with h1 h2
            subst h1
            subst h2
            exact ⟨[], .nil, rfl⟩
          intro h21_1
          first | rw [if_neg h21_1] at hP | rw [if_pos (Decidable.not_not.1 h21_1)] at hP | skip
          obtain ⟨nb20, rfl⟩ := hN20.shape (by simpa using h21_1)
          refine SPL_nil ?_
          refine thenP_n ?_
          refine SP_cond_f rfl ?_
          refine SP_skip ?_
          refine thenP_n ?_
          refine SP_seq ?_
          refine SP_region ?_
          refine SPL_y (y_move rfl) rfl ?_
          refine SPL_y (y_move rfl) rfl ?_
          refine SPL_one rfl (SP1_slice12 el_172 rfl rfl rfl rfl rfl ?_)
          intro b77
          refine SPL_y (y_assign rfl) rfl ?_
          refine SPL_nil ?_
          refine thenP_n ?_
          refine SP_seq ?_
          refine SP_seq ?_
          refine SP_region ?_
          refine SPL_y (y_move rfl) rfl ?_
          obtain ⟨b24, s24, hq24, hP⟩ := bnd2 hP
          refine SPL_one rfl (SP1_call (pr_accept x hq24) Tryz.call241 rfl rfl (by repeat (first | exact Part.nil _ | (apply Part.cons; (first | exact P0 | exact P1 | exact P2 | exact P3 | exact P4 | exact P5 | exact P6 | exact P7 | exact P8 | exact P9 | exact P10 | exact P11 | exact P12 | exact P13 | exact P14 | exact P15 | exact P16 | exact P17 | exact P18 | exact P19 | exact P20 | exact P21 | exact P22 | exact P23)) | (apply Part.flat; simp only [List.cons_append, List.nil_append]) | (apply Part.nilc))) ?_)
          rintro v post H' ⟨rfl, rfl⟩ hH
          rcases b24 with _ | _
          · try simp only [List.cons_append, List.nil_append] at hH
            subst hH
            try dsimp only [cond_true, cond_false, Bool.true_or, Bool.false_or] at hP
            refine SPL_nil ?_
            refine thenP_n ?_
            refine SP_cond_f rfl ?_
            refine SP_skip ?_
            refine thenP_n ?_
            refine SP_seq ?_
            refine SP_region ?_
            refine SPL_y (y_move rfl) rfl ?_
            refine SPL_y (y_move rfl) rfl ?_
            obtain ⟨r29, s29, hq29, hP⟩ := bnd2 hP
            refine SPL_one rfl (SP1_call (pr_body x rc hr (by omega) hq29) Tryz.call191 rfl rfl (by repeat (first | exact Part.nil _ | (apply Part.cons; (first | exact P0 | exact P1 | exact P2 | exact P3 | exact P4 | exact P5 | exact P6 | exact P7 | exact P8 | exact P9 | exact P10 | exact P11 | exact P12 | exact P13 | exact P14 | exact P15 | exact P16 | exact P17 | exact P18 | exact P19 | exact P20 | exact P21 | exact P22 | exact P23)) | (apply Part.flat; simp only [List.cons_append, List.nil_append]) | (apply Part.nilc))) ?_)
            rintro v post H' hL hH
            rcases r29 with _ | l29
            · obtain ⟨rfl, rfl⟩ := hL
              try simp only [List.cons_append, List.nil_append] at hH
              subst hH
              try dsimp only [cond_true, cond_false, Bool.true_or, Bool.false_or] at hP
              refine SPL_y (y_move rfl) rfl ?_
              refine SPL_y (y_ext rfl rfl) rfl ?_
              refine SPL_y (y_ext rfl rfl) rfl ?_
              refine SPL_y (y_assign rfl) rfl ?_
              refine SPL_y (y_assign rfl) rfl ?_
              refine SPL_nil ?_
              refine thenP_n ?_
              refine SP_seq ?_
              refine SP_seq ?_
              refine SP_region ?_
              refine SPL_y (y_move rfl) rfl ?_
              refine SPL_y (y_not_f rfl) rfl ?_
              refine SPL_nil ?_
              refine thenP_n ?_
              refine SP_cond_t rfl ?_
              refine SP_seq ?_
              refine SP_region ?_
              refine SPL_y (y_assign rfl) rfl ?_
              refine SPL_nil ?_
              refine thenP_n ?_
              refine SP_ret ?_
              refine thenP_ret (bodyP_ret (H' := [x.gs, x.b _, x.st, []]) (Res1 rfl rfl) (by repeat (first | exact Part.nil _ | (apply Part.cons; (first | exact P0 | exact P1 | exact P2 | exact P3 | exact P4 | exact P5 | exact P6 | exact P7 | exact P8 | exact P9 | exact P10 | exact P11 | exact P12 | exact P13 | exact P14 | exact P15 | exact P16 | exact P17 | exact P18 | exact P19 | exact P20 | exact P21 | exact P22 | exact P23)) | (apply Part.flat; simp only [List.cons_append, List.nil_append]) | (apply Part.nilc))) ?_)
              injection hP with hP
              injection hP with h1 h2
              subst h1
              subst h2
              exact ⟨[], .nil, rfl⟩
            · obtain ⟨la29, lm29, lc29, ls29, hL29, rfl, rfl⟩ := hL
              try simp only [List.cons_append, List.nil_append] at hH
              subst hH
              try dsimp only [cond_true, cond_false, Bool.true_or, Bool.false_or] at hP
              refine SPL_y (y_move rfl) rfl ?_
              refine SPL_y (y_ext rfl rfl) rfl ?_
              refine SPL_y (y_ext rfl rfl) rfl ?_
              refine SPL_y (y_assign rfl) rfl ?_
              refine SPL_y (y_assign rfl) rfl ?_
              refine SPL_nil ?_
              refine thenP_n ?_
              refine SP_seq ?_
              refine SP_seq ?_
              refine SP_region ?_
              refine SPL_y (y_move rfl) rfl ?_
              refine SPL_y (y_not_t rfl) rfl ?_
              refine SPL_nil ?_
              refine thenP_n ?_
              refine SP_cond_f rfl ?_
              refine SP_skip ?_
              refine thenP_n ?_
              refine SP_seq ?_
              refine SP_region ?_
              refine SPL_y (y_move rfl) rfl ?_
              refine SPL_y (y_move rfl) rfl ?_
              refine SPL_y (y_move rfl) rfl ?_
              refine SPL_y (y_build B374 rfl rfl (by simp only [fillL, List.foldl_cons, List.foldl_nil, List.set_cons_zero, List.set_cons_succ]; exact rfl)) rfl ?_
              refine SPL_one rfl (SP1_box rfl rfl rfl ?_)
              intro b102
              refine SPL_y (y_mki Tryz.underlying372 rfl rfl) rfl ?_
              refine SPL_y (y_assign rfl) rfl ?_
              refine SPL_nil ?_
              refine thenP_n ?_
              refine SP_ret ?_
              refine bodyP_ret (H' := [x.gs, x.b s29, x.st, List.flatten [blk b102 374 [pt nb1, .slice (some ⟨b77, 0, none⟩) 2 2, .slice la29 lm29 lc29], blk nb1 358 [I na1, S nt1], List.flatten [blk b77 236 [.iface t17.ty (pt nb17), .iface t20.ty (pt nb20)], List.flatten [sn17, sn20]], ls29]]) (Res1 rfl rfl) (by repeat (first | exact Part.nil _ | (apply Part.cons; (first | exact P0 | exact P1 | exact P2 | exact P3 | exact P4 | exact P5 | exact P6 | exact P7 | exact P8 | exact P9 | exact P10 | exact P11 | exact P12 | exact P13 | exact P14 | exact P15 | exact P16 | exact P17 | exact P18 | exact P19 | exact P20 | exact P21 | exact P22 | exact P23)) | (apply Part.flat; simp only [List.cons_append, List.nil_append]) | (apply Part.nilc))) ?_
              injection hP with hP
              injection hP with h1 h2
              subst h1
              subst h2
              exact ⟨_, .forN (IsL.mk (.cons hN17 (.cons hN20 .nil)) (Arr.full rfl)) hL29, rfl⟩
          · try simp only [List.cons_append, List.nil_append] at hH
            subst hH
            try dsimp only [cond_true, cond_false, Bool.true_or, Bool.false_or] at hP
            refine SPL_nil ?_
            refine thenP_n ?_
            refine SP_cond_t rfl ?_
            refine SP_seq ?_
            refine SP_region ?_
            refine SPL_y (y_move rfl) rfl ?_
            refine SPL_y (y_move rfl) rfl ?_
            refine SPL_y (y_sub rfl rfl (by omega)) rfl ?_
            obtain ⟨t25, s25, hq25, hP⟩ := bnd2 hP
            refine SPL_one rfl (SP1_call (hr.expr _ _ _ _ _ hq25) Tryz.call190 rfl rfl (by repeat (first | exact Part.nil _ | (apply Part.cons; (first | exact P0 | exact P1 | exact P2 | exact P3 | exact P4 | exact P5 | exact P6 | exact P7 | exact P8 | exact P9 | exact P10 | exact P11 | exact P12 | exact P13 | exact P14 | exact P15 | exact P16 | exact P17 | exact P18 | exact P19 | exact P20 | exact P21 | exact P22 | exact P23)) | (apply Part.flat; simp only [List.cons_append, List.nil_append]) | (apply Part.nilc))) ?_)
            rintro v25 post H' ⟨sn25, hN25, rfl⟩ hH
            try simp only [List.cons_append, List.nil_append] at hH
            subst hH
            refine SPL_y (y_assign rfl) rfl ?_
            refine SPL_nil ?_
            refine thenP_n ?_
            refine SP_seq ?_
            refine SP_seq ?_
            refine SP_region ?_
            refine SPL_y (y_move rfl) rfl ?_
            refine SPL_if (y_nE Tryz.underlying292 rfl (by assumption)) rfl ?_ ?_
            · intro h26_1
              first | rw [if_pos h26_1] at hP | rw [if_neg h26_1] at hP | skip
              refine SPL_nil ?_
              refine thenP_n ?_
              refine SP_cond_t rfl ?_
              refine SP_seq ?_
              refine SP_region ?_
              refine SPL_y (y_assign rfl) rfl ?_
              refine SPL_nil ?_
              refine thenP_n ?_
              refine SP_ret ?_
              refine thenP_ret (thenP_ret (bodyP_ret (H' := [x.gs, x.b _, x.st, []]) (Res1 rfl rfl) (by repeat (first | exact Part.nil _ | (apply Part.cons; (first | exact P0 | exact P1 | exact P2 | exact P3 | exact P4 | exact P5 | exact P6 | exact P7 | exact P8 | exact P9 | exact P10 | exact P11 | exact P12 | exact P13 | exact P14 | exact P15 | exact P16 | exact P17 | exact P18 | exact P19 | exact P20 | exact P21 | exact P22 | exact P23)) | (apply Part.flat; simp only [List.cons_append, List.nil_append]) | (apply Part.nilc))) ?_))
              injection hP with hP
              injection hP with h1 h2
              subst h1
              subst h2
              exact ⟨[], .nil, rfl⟩
            intro h26_1
            first | rw [if_neg h26_1] at hP | rw [if_pos (Decidable.not_not.1 h26_1)] at hP | skip
            obtain ⟨nb25, rfl⟩ := hN25.shape (by simpa using h26_1)
            refine SPL_nil ?_
            refine thenP_n ?_
            refine SP_cond_f rfl ?_
            refine SP_skip ?_
            refine thenP_n ?_
            refine SP_region ?_
            refine SPL_y (y_move rfl) rfl ?_
            refine SPL_y (y_move rfl) rfl ?_
            refine SPL_one rfl (SP1_slice1 el_172 rfl rfl rfl rfl rfl ?_)
            intro b88
            refine SPL_one rfl (SP1_append el_172 (.inl Tryz.underlying172) rfl rfl (Arr.full rfl : Arr 236 1 (some ⟨b77, 0, none⟩) 2 2 [.iface t17.ty (pt nb17), .iface t20.ty (pt nb20)] (blk b77 236 [.iface t17.ty (pt nb17), .iface t20.ty (pt nb20)])) (by first | exact P0 | exact P1 | exact P2 | exact P3 | exact P4 | exact P5 | exact P6 | exact P7 | exact P8 | exact P9 | exact P10 | exact P11 | exact P12 | exact P13 | exact P14 | exact P15 | exact P16 | exact P17 | exact P18 | exact P19 | exact P20 | exact P21 | exact P22 | exact P23) (Src.of (by repeat (first | exact Cells.all _ | exact Cells.amid hpre rfl (by decide) | exact Cells.head rfl | apply Cells.tail)) (by rfl)) (by rfl) (by omega) rfl ?_)
            intro a2 c2 s2 h2
            refine SPL_y (y_assign rfl) rfl ?_
            refine SPL_nil ?_
            refine thenP_n ?_
            refine SP_seq ?_
            refine SP_region ?_
            refine SPL_y (y_move rfl) rfl ?_
            refine SPL_y (y_move rfl) rfl ?_
            obtain ⟨r29, s29, hq29, hP⟩ := bnd2 hP
            refine SPL_one rfl (SP1_call (pr_body x rc hr (by omega) hq29) Tryz.call191 rfl rfl (by repeat (first | exact Part.nil _ | (apply Part.cons; (first | exact P0 | exact P1 | exact P2 | exact P3 | exact P4 | exact P5 | exact P6 | exact P7 | exact P8 | exact P9 | exact P10 | exact P11 | exact P12 | exact P13 | exact P14 | exact P15 | exact P16 | exact P17 | exact P18 | exact P19 | exact P20 | exact P21 | exact P22 | exact P23)) | (apply Part.flat; simp only [List.cons_append, List.nil_append]) | (apply Part.nilc))) ?_)
            rintro v post H' hL hH
            rcases r29 with _ | l29
            · obtain ⟨rfl, rfl⟩ := hL
              try simp only [List.cons_append, List.nil_append] at hH
              subst hH
              try dsimp only [cond_true, cond_false, Bool.true_or, Bool.false_or] at hP
              refine SPL_y (y_move rfl) rfl ?_
              refine SPL_y (y_ext rfl rfl) rfl ?_
              refine SPL_y (y_ext rfl rfl) rfl ?_
              refine SPL_y (y_assign rfl) rfl ?_
              refine SPL_y (y_assign rfl) rfl ?_
              refine SPL_nil ?_
              refine thenP_n ?_
              refine SP_seq ?_
              refine SP_seq ?_
              refine SP_region ?_
              refine SPL_y (y_move rfl) rfl ?_
              refine SPL_y (y_not_f rfl) rfl ?_
              refine SPL_nil ?_
              refine thenP_n ?_
              refine SP_cond_t rfl ?_
              refine SP_seq ?_
              refine SP_region ?_
              refine SPL_y (y_assign rfl) rfl ?_
              refine SPL_nil ?_
              refine thenP_n ?_
              refine SP_ret ?_
              refine thenP_ret (bodyP_ret (H' := [x.gs, x.b _, x.st, []]) (Res1 rfl rfl) (by repeat (first | exact Part.nil _ | (apply Part.cons; (first | exact P0 | exact P1 | exact P2 | exact P3 | exact P4 | exact P5 | exact P6 | exact P7 | exact P8 | exact P9 | exact P10 | exact P11 | exact P12 | exact P13 | exact P14 | exact P15 | exact P16 | exact P17 | exact P18 | exact P19 | exact P20 | exact P21 | exact P22 | exact P23)) | (apply Part.flat; simp only [List.cons_append, List.nil_append]) | (apply Part.nilc))) ?_)
              injection hP with hP
              injection hP with h1 h2
              subst h1
              subst h2
              exact ⟨[], .nil, rfl⟩
            · obtain ⟨la29, lm29, lc29, ls29, hL29, rfl, rfl⟩ := hL
              try simp only [List.cons_append, List.nil_append] at hH
              subst hH
              try dsimp only [cond_true, cond_false, Bool.true_or, Bool.false_or] at hP
              refine SPL_y (y_move rfl) rfl ?_
              refine SPL_y (y_ext rfl rfl) rfl ?_
              refine SPL_y (y_ext rfl rfl) rfl ?_
              refine SPL_y (y_assign rfl) rfl ?_
              refine SPL_y (y_assign rfl) rfl ?_
              refine SPL_nil ?_
              refine thenP_n ?_
              refine SP_seq ?_
              refine SP_seq ?_
              refine SP_region ?_
              refine SPL_y (y_move rfl) rfl ?_
              refine SPL_y (y_not_t rfl) rfl ?_
              refine SPL_nil ?_
              refine thenP_n ?_
              refine SP_cond_f rfl ?_
              refine SP_skip ?_
              refine thenP_n ?_
              refine SP_seq ?_
              refine SP_region ?_
              refine SPL_y (y_move rfl) rfl ?_
              refine SPL_y (y_move rfl) rfl ?_
              refine SPL_y (y_move rfl) rfl ?_
              refine SPL_y (y_build B374 rfl rfl (by simp only [fillL, List.foldl_cons, List.foldl_nil, List.set_cons_zero, List.set_cons_succ]; exact rfl)) rfl ?_
              refine SPL_one rfl (SP1_box rfl rfl rfl ?_)
              intro b102
              refine SPL_y (y_mki Tryz.underlying372 rfl rfl) rfl ?_
              refine SPL_y (y_assign rfl) rfl ?_
              refine SPL_nil ?_
              refine thenP_n ?_
              refine SP_ret ?_
              refine bodyP_ret (H' := [x.gs, x.b s29, x.st, List.flatten [blk b102 374 [pt nb1, .slice a2 (2 + 1) c2, .slice la29 lm29 lc29], blk nb1 358 [I na1, S nt1], List.flatten [s2, List.flatten [sn17, sn20, sn25]], ls29]]) (Res1 rfl rfl) (by repeat (first | exact Part.nil _ | (apply Part.cons; (first | exact P0 | exact P1 | exact P2 | exact P3 | exact P4 | exact P5 | exact P6 | exact P7 | exact P8 | exact P9 | exact P10 | exact P11 | exact P12 | exact P13 | exact P14 | exact P15 | exact P16 | exact P17 | exact P18 | exact P19 | exact P20 | exact P21 | exact P22 | exact P23)) | (apply Part.flat; simp only [List.cons_append, List.nil_append]) | (apply Part.nilc))) ?_
              injection hP with hP
              injection hP with h1 h2
              subst h1
              subst h2
              exact ⟨_, .forN (IsL.mk (.cons hN17 (.cons hN20 (.cons hN25 .nil))) h2) hL29, rfl⟩
    · try simp only [List.cons_append, List.nil_append] at hH
      subst hH
      try dsimp only [cond_true, cond_false, Bool.true_or, Bool.false_or] at hP
      refine SPL_nil ?_
      refine thenP_n ?_
      refine SP_cond_t rfl ?_
      refine SP_seq ?_
      refine SP_region ?_
      refine SPL_y (y_move rfl) rfl ?_
      obtain ⟨r5, s5, hq5, hP⟩ := bnd2 hP
      refine SPL_one rfl (SP1_call (pr_name x (by omega) hq5) Tryz.call239 rfl rfl (by repeat (first | exact Part.nil _ | (apply Part.cons; (first | exact P0 | exact P1 | exact P2 | exact P3 | exact P4 | exact P5 | exact P6 | exact P7 | exact P8 | exact P9 | exact P10 | exact P11 | exact P12 | exact P13 | exact P14 | exact P15 | exact P16 | exact P17 | exact P18 | exact P19 | exact P20 | exact P21 | exact P22 | exact P23)) | (apply Part.flat; simp only [List.cons_append, List.nil_append]) | (apply Part.nilc))) ?_)
      rintro v post H' hL hH
      rcases r5 with _ | ⟨na5, nt5⟩
      · obtain ⟨rfl, rfl⟩ := hL
        try simp only [List.cons_append, List.nil_append] at hH
        subst hH
        try dsimp only [cond_true, cond_false, Bool.true_or, Bool.false_or] at hP
        refine SPL_y (y_assign rfl) rfl ?_
        refine SPL_nil ?_
        refine thenP_n ?_
        refine SP_seq ?_
        refine SP_seq ?_
        refine SP_region ?_
        refine SPL_y (y_move rfl) rfl ?_
        refine SPL_y (y_peql_F Tryz.underlying307 rfl rfl) rfl ?_
        refine SPL_y (y_move rfl) rfl ?_
        refine SPL_gn rfl rfl rfl rfl ?_
        refine SPL_gn rfl rfl rfl rfl ?_
        refine SPL_gn rfl rfl rfl rfl ?_
        refine SPL_y (y_pick_t rfl rfl) rfl ?_
        refine SPL_nil ?_
        refine thenP_n ?_
        refine SP_cond_t rfl ?_
        refine SP_seq ?_
        refine SP_region ?_
        refine SPL_y (y_assign rfl) rfl ?_
        refine SPL_nil ?_
        refine thenP_n ?_
        refine SP_ret ?_
        refine thenP_ret (thenP_ret (bodyP_ret (H' := [x.gs, x.b _, x.st, []]) (Res1 rfl rfl) (by repeat (first | exact Part.nil _ | (apply Part.cons; (first | exact P0 | exact P1 | exact P2 | exact P3 | exact P4 | exact P5 | exact P6 | exact P7 | exact P8 | exact P9 | exact P10 | exact P11 | exact P12 | exact P13 | exact P14 | exact P15 | exact P16 | exact P17 | exact P18 | exact P19 | exact P20 | exact P21 | exact P22 | exact P23)) | (apply Part.flat; simp only [List.cons_append, List.nil_append]) | (apply Part.nilc))) ?_))
        injection hP with hP
        injection hP with h1 h2
        subst h1
        subst h2
        exact ⟨[], .nil, rfl⟩
      · obtain ⟨nb5, rfl, rfl⟩ := hL
        try simp only [List.cons_append, List.nil_append] at hH
        subst hH
        try dsimp only [cond_true, cond_false, Bool.true_or, Bool.false_or] at hP
        refine SPL_y (y_assign rfl) rfl ?_
        refine SPL_nil ?_
        refine thenP_n ?_
        refine SP_seq ?_
        refine SP_seq ?_
        refine SP_region ?_
        refine SPL_y (y_move rfl) rfl ?_
        refine SPL_y (y_peql_T Tryz.underlying307 rfl rfl) rfl ?_
        refine SPL_y (y_move rfl) rfl ?_
        refine SPL_gy rfl rfl ?_
        refine SPL_y (y_move rfl) rfl ?_
        refine SPL_gy rfl rfl ?_
        obtain ⟨b6, s6, hq6, hP⟩ := bnd2 hP
        refine SPL_one rfl (SP1_call (pr_expect x hq6) Tryz.call242 rfl rfl (by repeat (first | exact Part.nil _ | (apply Part.cons; (first | exact P0 | exact P1 | exact P2 | exact P3 | exact P4 | exact P5 | exact P6 | exact P7 | exact P8 | exact P9 | exact P10 | exact P11 | exact P12 | exact P13 | exact P14 | exact P15 | exact P16 | exact P17 | exact P18 | exact P19 | exact P20 | exact P21 | exact P22 | exact P23)) | (apply Part.flat; simp only [List.cons_append, List.nil_append]) | (apply Part.nilc))) ?_)
        rintro v post H' ⟨rfl, rfl⟩ hH
        rcases b6 with _ | _
        · try simp only [List.cons_append, List.nil_append] at hH
          subst hH
          try dsimp only [cond_true, cond_false, Bool.true_or, Bool.false_or] at hP
          refine SPL_gy rfl rfl ?_
          refine SPL_y (y_not_f rfl) rfl ?_
          refine SPL_y (y_pick_f rfl rfl) rfl ?_
          refine SPL_nil ?_
          refine thenP_n ?_
          refine SP_cond_t rfl ?_
          refine SP_seq ?_
          refine SP_region ?_
          refine SPL_y (y_assign rfl) rfl ?_
          refine SPL_nil ?_
          refine thenP_n ?_
          refine SP_ret ?_
          refine thenP_ret (thenP_ret (bodyP_ret (H' := [x.gs, x.b _, x.st, []]) (Res1 rfl rfl) (by repeat (first | exact Part.nil _ | (apply Part.cons; (first | exact P0 | exact P1 | exact P2 | exact P3 | exact P4 | exact P5 | exact P6 | exact P7 | exact P8 | exact P9 | exact P10 | exact P11 | exact P12 | exact P13 | exact P14 | exact P15 | exact P16 | exact P17 | exact P18 | exact P19 | exact P20 | exact P21 | exact P22 | exact P23)) | (apply Part.flat; simp only [List.cons_append, List.nil_append]) | (apply Part.nilc))) ?_))
          injection hP with hP
          injection hP with h1 h2
          subst h1
          subst h2
          exact ⟨[], .nil, rfl⟩
        · try simp only [List.cons_append, List.nil_append] at hH
          subst hH
          try dsimp only [cond_true, cond_false, Bool.true_or, Bool.false_or] at hP
          refine SPL_gy rfl rfl ?_
          refine SPL_y (y_not_t rfl) rfl ?_
          refine SPL_y (y_pick_f rfl rfl) rfl ?_
          refine SPL_nil ?_
          refine thenP_n ?_
          refine SP_cond_f rfl ?_
          refine SP_skip ?_
          refine thenP_n ?_
          refine SP_seq ?_
          refine SP_region ?_
          refine SPL_y (y_move rfl) rfl ?_
          refine SPL_y (y_move rfl) rfl ?_
          refine SPL_y (y_sub rfl rfl (by omega)) rfl ?_
          obtain ⟨t8, s8, hq8, hP⟩ := bnd2 hP
          refine SPL_one rfl (SP1_call (hr.expr _ _ _ _ _ hq8) Tryz.call190 rfl rfl (by repeat (first | exact Part.nil _ | (apply Part.cons; (first | exact P0 | exact P1 | exact P2 | exact P3 | exact P4 | exact P5 | exact P6 | exact P7 | exact P8 | exact P9 | exact P10 | exact P11 | exact P12 | exact P13 | exact P14 | exact P15 | exact P16 | exact P17 | exact P18 | exact P19 | exact P20 | exact P21 | exact P22 | exact P23)) | (apply Part.flat; simp only [List.cons_append, List.nil_append]) | (apply Part.nilc))) ?_)
          rintro v8 post H' ⟨sn8, hN8, rfl⟩ hH
          try simp only [List.cons_append, List.nil_append] at hH
          subst hH
          refine SPL_y (y_assign rfl) rfl ?_
          refine SPL_nil ?_
          refine thenP_n ?_
          refine SP_seq ?_
          refine SP_seq ?_
          refine SP_region ?_
          refine SPL_y (y_move rfl) rfl ?_
          refine SPL_if (y_nE Tryz.underlying292 rfl (by assumption)) rfl ?_ ?_
          · intro h9_1
            first | rw [if_pos h9_1] at hP | rw [if_neg h9_1] at hP | skip
            refine SPL_nil ?_
            refine thenP_n ?_
            refine SP_cond_t rfl ?_
            refine SP_seq ?_
            refine SP_region ?_
            refine SPL_y (y_assign rfl) rfl ?_
            refine SPL_nil ?_
            refine thenP_n ?_
            refine SP_ret ?_
            refine thenP_ret (thenP_ret (bodyP_ret (H' := [x.gs, x.b _, x.st, []]) (Res1 rfl rfl) (by repeat (first | exact Part.nil _ | (apply Part.cons; (first | exact P0 | exact P1 | exact P2 | exact P3 | exact P4 | exact P5 | exact P6 | exact P7 | exact P8 | exact P9 | exact P10 | exact P11 | exact P12 | exact P13 | exact P14 | exact P15 | exact P16 | exact P17 | exact P18 | exact P19 | exact P20 | exact P21 | exact P22 | exact P23)) | (apply Part.flat; simp only [List.cons_append, List.nil_append]) | (apply Part.nilc))) ?_))
            injection hP with hP
            injection hP with h1 h2
            subst h1
            subst h2
            exact ⟨[], .nil, rfl⟩
          intro h9_1
          first | rw [if_neg h9_1] at hP | rw [if_pos (Decidable.not_not.1 h9_1)] at hP | skip
          obtain ⟨nb8, rfl⟩ := hN8.shape (by simpa using h9_1)
          refine SPL_nil ?_
          refine thenP_n ?_
          refine SP_cond_f rfl ?_
          refine SP_skip ?_
          refine thenP_n ?_
          refine SP_seq ?_
          refine SP_region ?_
          refine SPL_y (y_move rfl) rfl ?_
          refine SPL_y (y_move rfl) rfl ?_
          obtain ⟨r11, s11, hq11, hP⟩ := bnd2 hP
          refine SPL_one rfl (SP1_call (pr_body x rc hr (by omega) hq11) Tryz.call191 rfl rfl (by repeat (first | exact Part.nil _ | (apply Part.cons; (first | exact P0 | exact P1 | exact P2 | exact P3 | exact P4 | exact P5 | exact P6 | exact P7 | exact P8 | exact P9 | exact P10 | exact P11 | exact P12 | exact P13 | exact P14 | exact P15 | exact P16 | exact P17 | exact P18 | exact P19 | exact P20 | exact P21 | exact P22 | exact P23)) | (apply Part.flat; simp only [List.cons_append, List.nil_append]) | (apply Part.nilc))) ?_)
          rintro v post H' hL hH
          rcases r11 with _ | l11
          · obtain ⟨rfl, rfl⟩ := hL
            try simp only [List.cons_append, List.nil_append] at hH
            subst hH
            try dsimp only [cond_true, cond_false, Bool.true_or, Bool.false_or] at hP
            refine SPL_y (y_move rfl) rfl ?_
            refine SPL_y (y_ext rfl rfl) rfl ?_
            refine SPL_y (y_ext rfl rfl) rfl ?_
            refine SPL_y (y_assign rfl) rfl ?_
            refine SPL_y (y_assign rfl) rfl ?_
            refine SPL_nil ?_
            refine thenP_n ?_
            refine SP_seq ?_
            refine SP_seq ?_
            refine SP_region ?_
            refine SPL_y (y_move rfl) rfl ?_
            refine SPL_y (y_not_f rfl) rfl ?_
            refine SPL_nil ?_
            refine thenP_n ?_
            refine SP_cond_t rfl ?_
            refine SP_seq ?_
            refine SP_region ?_
            refine SPL_y (y_assign rfl) rfl ?_
            refine SPL_nil ?_
            refine thenP_n ?_
            refine SP_ret ?_
            refine thenP_ret (thenP_ret (bodyP_ret (H' := [x.gs, x.b _, x.st, []]) (Res1 rfl rfl) (by repeat (first | exact Part.nil _ | (apply Part.cons; (first | exact P0 | exact P1 | exact P2 | exact P3 | exact P4 | exact P5 | exact P6 | exact P7 | exact P8 | exact P9 | exact P10 | exact P11 | exact P12 | exact P13 | exact P14 | exact P15 | exact P16 | exact P17 | exact P18 | exact P19 | exact P20 | exact P21 | exact P22 | exact P23)) | (apply Part.flat; simp only [List.cons_append, List.nil_append]) | (apply Part.nilc))) ?_))
            injection hP with hP
            injection hP with h1 h2
            subst h1
            subst h2
            exact ⟨[], .nil, rfl⟩
          · obtain ⟨la11, lm11, lc11, ls11, hL11, rfl, rfl⟩ := hL
            try simp only [List.cons_append, List.nil_append] at hH
            subst hH
            try dsimp only [cond_true, cond_false, Bool.true_or, Bool.false_or] at hP
            refine SPL_y (y_move rfl) rfl ?_
            refine SPL_y (y_ext rfl rfl) rfl ?_
            refine SPL_y (y_ext rfl rfl) rfl ?_
            refine SPL_y (y_assign rfl) rfl ?_
            refine SPL_y (y_assign rfl) rfl ?_
            refine SPL_nil ?_
            refine thenP_n ?_
            refine SP_seq ?_
            refine SP_seq ?_
            refine SP_region ?_
            refine SPL_y (y_move rfl) rfl ?_
            refine SPL_y (y_not_t rfl) rfl ?_
            refine SPL_nil ?_
            refine thenP_n ?_
            refine SP_cond_f rfl ?_
            refine SP_skip ?_
            refine thenP_n ?_
            refine SP_seq ?_
            refine SP_region ?_
            refine SPL_y (y_move rfl) rfl ?_
            refine SPL_y (y_mki Tryz.underlying307 rfl rfl) rfl ?_
            refine SPL_y (y_move rfl) rfl ?_
            refine SPL_y (y_mki Tryz.underlying307 rfl rfl) rfl ?_
            refine SPL_one rfl (SP1_slice12 el_172 rfl rfl rfl rfl rfl ?_)
            intro b49
            refine SPL_y (y_move rfl) rfl ?_
            refine SPL_y (y_move rfl) rfl ?_
            refine SPL_y (y_build B371 rfl rfl (by simp only [fillL, List.foldl_cons, List.foldl_nil, List.set_cons_zero, List.set_cons_succ]; exact rfl)) rfl ?_
            refine SPL_one rfl (SP1_box rfl rfl rfl ?_)
            intro b53
            refine SPL_y (y_mki Tryz.underlying369 rfl rfl) rfl ?_
            refine SPL_y (y_assign rfl) rfl ?_
            refine SPL_nil ?_
            refine thenP_n ?_
            refine SP_ret ?_
            refine thenP_ret (bodyP_ret (H' := [x.gs, x.b s11, x.st, List.flatten [blk b53 371 [.slice (some ⟨b49, 0, none⟩) 2 2, .iface t8.ty (pt nb8), .slice la11 lm11 lc11], List.flatten [blk b49 236 [.iface 307 (pt nb1), .iface 307 (pt nb5)], List.flatten [blk nb1 358 [I na1, S nt1], blk nb5 358 [I na5, S nt5]]], sn8, ls11]]) (Res1 rfl rfl) (by repeat (first | exact Part.nil _ | (apply Part.cons; (first | exact P0 | exact P1 | exact P2 | exact P3 | exact P4 | exact P5 | exact P6 | exact P7 | exact P8 | exact P9 | exact P10 | exact P11 | exact P12 | exact P13 | exact P14 | exact P15 | exact P16 | exact P17 | exact P18 | exact P19 | exact P20 | exact P21 | exact P22 | exact P23)) | (apply Part.flat; simp only [List.cons_append, List.nil_append]) | (apply Part.nilc))) ?_)
            injection hP with hP
            injection hP with h1 h2
            subst h1
            subst h2
            exact ⟨_, .forIn (IsL.mk (.cons .name (.cons .name .nil)) (Arr.full rfl)) hN8 hL11, rfl⟩

theorem pr_stmt (x : PX) (rc : Rec) (hr : RecOk x rc) {n : Nat} {room : Int} {s s' : PS} {t : T} (hP : stmtP x.toks rc n room s = some (t, s')) : Spec Tryz.prog 126 [pt x.p, I room] [x.gs, x.b s, x.st] (Ret (ndOk x t s')) := by
  unfold stmtP at hP
  obtain ⟨hrm, hP⟩ := grd hP
  refine Spec_enter Tryz.func126 rfl Tryz.ntmps126 rfl ?_
  show SP _ _ _ _ _ [(0, _), (1, _)] _
  refine SP_seq ?_
  refine SP_region ?_
  refine SPL_y (y_assign rfl) rfl ?_
  refine SPL_nil ?_
  refine thenP_n ?_
  refine SP_seq ?_
  refine SP_region ?_
  refine SPL_y (y_move rfl) rfl ?_
  refine SPL_y (y_nil rfl) rfl ?_
  refine SPL_y (y_fa fld_170_2 rfl) rfl ?_
  refine SPL_y (y_loads Tryz.isAgg156 Tryz.sizeOf156 rfl rfl (by repeat (first | exact Cells.head (vs := tokV (s).cur) rfl | apply Cells.tail))) rfl ?_
  refine SPL_one rfl (SP1_alloc Tryz.zeroValue156 rfl rfl ?_)
  intro b5
  refine SPL_one rfl (SP1_storeAll Tryz.sizeOf156 rfl rfl rfl rfl rfl (by first | exact U0 | exact U1 | exact U2 | exact U3 | exact U4 | exact U5 | exact U6 | exact U7 | exact U8 | exact U9 | exact U10 | exact U11 | exact U12 | exact U13 | exact U14 | exact U15 | exact U16 | exact U17 | exact U18 | exact U19 | exact U20 | exact U21 | exact U22 | exact U23) (by rfl) ?_)
  refine SPL_nil ?_
  refine thenP_n ?_
  refine SP_seq ?_
  refine SP_seq ?_
  refine SP_region ?_
  refine SPL_y (y_fa fld_156_0 rfl) rfl ?_
  refine SPL_y (y_load Tryz.isAgg154 rfl (by repeat (first | exact Cell.amid hpre rfl | exact Cell.head rfl | apply Cell.tail))) rfl ?_
  refine SPL_nil ?_
  refine thenP_n ?_
  refine SP_block ?_
  refine SP_seq ?_
  refine SP_region ?_
  refine SPL_if (y_eql rfl rfl) rfl ?_ ?_
  · intro h3_0
    first | rw [if_pos h3_0] at hP | rw [if_neg h3_0] at hP | skip
    refine SPL_y (y_assign rfl) rfl ?_
    refine SPL_nil ?_
    refine thenP_n ?_
    refine SP_cond_t rfl ?_
    refine SP_seq ?_
    refine SP_region ?_
    refine SPL_y (y_move rfl) rfl ?_
    obtain ⟨s4, hq4, hP⟩ := bnd1 hP
    refine SPL_one rfl (SP1_call (pr_next x hq4) Tryz.call186 rfl rfl (by repeat (first | exact Part.nil _ | (apply Part.cons; (first | exact P0 | exact P1 | exact P2 | exact P3 | exact P4 | exact P5 | exact P6 | exact P7 | exact P8 | exact P9 | exact P10 | exact P11 | exact P12 | exact P13 | exact P14 | exact P15 | exact P16 | exact P17 | exact P18 | exact P19 | exact P20 | exact P21 | exact P22 | exact P23)) | (apply Part.flat; simp only [List.cons_append, List.nil_append]) | (apply Part.nilc))) ?_)
    rintro v post H' ⟨rfl, rfl⟩ hH
    try simp only [List.cons_append, List.nil_append] at hH
    subst hH
    refine SPL_nil ?_
    refine thenP_n ?_
    refine SP_seq ?_
    refine SP_region ?_
    refine SPL_y (y_move rfl) rfl ?_
    refine SPL_y (y_move rfl) rfl ?_
    have hq5 := hP
    refine SPL_one rfl (SP1_call (pr_local x rc hr hq5) Tryz.call187 rfl rfl (by repeat (first | exact Part.nil _ | (apply Part.cons; (first | exact P0 | exact P1 | exact P2 | exact P3 | exact P4 | exact P5 | exact P6 | exact P7 | exact P8 | exact P9 | exact P10 | exact P11 | exact P12 | exact P13 | exact P14 | exact P15 | exact P16 | exact P17 | exact P18 | exact P19 | exact P20 | exact P21 | exact P22 | exact P23)) | (apply Part.flat; simp only [List.cons_append, List.nil_append]) | (apply Part.nilc))) ?_)
    rintro v5 post H' ⟨sn5, hN5, rfl⟩ hH
    try simp only [List.cons_append, List.nil_append] at hH
    subst hH
    refine SPL_y (y_assign rfl) rfl ?_
    refine SPL_nil ?_
    refine thenP_n ?_
    refine SP_ret ?_
    refine inBlockP_ret (thenP_ret (bodyP_ret (H' := [x.gs, x.b s', x.st, sn5]) (Res1 rfl rfl) (by repeat (first | exact Part.nil _ | (apply Part.cons; (first | exact P0 | exact P1 | exact P2 | exact P3 | exact P4 | exact P5 | exact P6 | exact P7 | exact P8 | exact P9 | exact P10 | exact P11 | exact P12 | exact P13 | exact P14 | exact P15 | exact P16 | exact P17 | exact P18 | exact P19 | exact P20 | exact P21 | exact P22 | exact P23)) | (apply Part.flat; simp only [List.cons_append, List.nil_append]) | (apply Part.nilc))) ?_))
    exact ⟨_, hN5, rfl⟩
  intro h3_0
  first | rw [if_neg h3_0] at hP | rw [if_pos (Decidable.not_not.1 h3_0)] at hP | skip
  refine SPL_y (y_assign rfl) rfl ?_
  refine SPL_nil ?_
  refine thenP_n ?_
  refine SP_cond_f rfl ?_
  refine SP_seq ?_
  refine SP_region ?_
  refine SPL_if (y_eql rfl rfl) rfl ?_ ?_
  · intro h6_0
    first | rw [if_pos h6_0] at hP | rw [if_neg h6_0] at hP | skip
    refine SPL_y (y_assign rfl) rfl ?_
    refine SPL_nil ?_
    refine thenP_n ?_
    refine SP_cond_t rfl ?_
    refine SP_seq ?_
    refine SP_region ?_
    refine SPL_y (y_move rfl) rfl ?_
    refine SPL_y (y_move rfl) rfl ?_
    have hq7 := hP
    refine SPL_one rfl (SP1_call (hr.branch _ _ _ _ hq7) Tryz.call188 rfl rfl (by repeat (first | exact Part.nil _ | (apply Part.cons; (first | exact P0 | exact P1 | exact P2 | exact P3 | exact P4 | exact P5 | exact P6 | exact P7 | exact P8 | exact P9 | exact P10 | exact P11 | exact P12 | exact P13 | exact P14 | exact P15 | exact P16 | exact P17 | exact P18 | exact P19 | exact P20 | exact P21 | exact P22 | exact P23)) | (apply Part.flat; simp only [List.cons_append, List.nil_append]) | (apply Part.nilc))) ?_)
    rintro v7 post H' ⟨sn7, hN7, rfl⟩ hH
    try simp only [List.cons_append, List.nil_append] at hH
    subst hH
    refine SPL_y (y_assign rfl) rfl ?_
    refine SPL_nil ?_
    refine thenP_n ?_
    refine SP_ret ?_
    refine inBlockP_ret (thenP_ret (bodyP_ret (H' := [x.gs, x.b s', x.st, sn7]) (Res1 rfl rfl) (by repeat (first | exact Part.nil _ | (apply Part.cons; (first | exact P0 | exact P1 | exact P2 | exact P3 | exact P4 | exact P5 | exact P6 | exact P7 | exact P8 | exact P9 | exact P10 | exact P11 | exact P12 | exact P13 | exact P14 | exact P15 | exact P16 | exact P17 | exact P18 | exact P19 | exact P20 | exact P21 | exact P22 | exact P23)) | (apply Part.flat; simp only [List.cons_append, List.nil_append]) | (apply Part.nilc))) ?_))
    exact ⟨_, hN7, rfl⟩
  intro h6_0
  first | rw [if_neg h6_0] at hP | rw [if_pos (Decidable.not_not.1 h6_0)] at hP | skip
  refine SPL_y (y_assign rfl) rfl ?_
  refine SPL_nil ?_
  refine thenP_n ?_
  refine SP_cond_f rfl ?_
  refine SP_seq ?_
  refine SP_region ?_
  refine SPL_if (y_eql rfl rfl) rfl ?_ ?_
  · intro h8_0
    first | rw [if_pos h8_0] at hP | rw [if_neg h8_0] at hP | skip
    refine SPL_y (y_assign rfl) rfl ?_
    refine SPL_nil ?_
    refine thenP_n ?_
    refine SP_cond_t rfl ?_
    refine SP_seq ?_
    refine SP_region ?_
    refine SPL_y (y_move rfl) rfl ?_
    obtain ⟨s9, hq9, hP⟩ := bnd1 hP
    refine SPL_one rfl (SP1_call (pr_next x hq9) Tryz.call186 rfl rfl (by repeat (first | exact Part.nil _ | (apply Part.cons; (first | exact P0 | exact P1 | exact P2 | exact P3 | exact P4 | exact P5 | exact P6 | exact P7 | exact P8 | exact P9 | exact P10 | exact P11 | exact P12 | exact P13 | exact P14 | exact P15 | exact P16 | exact P17 | exact P18 | exact P19 | exact P20 | exact P21 | exact P22 | exact P23)) | (apply Part.flat; simp only [List.cons_append, List.nil_append]) | (apply Part.nilc))) ?_)
    rintro v post H' ⟨rfl, rfl⟩ hH
    try simp only [List.cons_append, List.nil_append] at hH
    subst hH
    refine SPL_nil ?_
    refine thenP_n ?_
    refine SP_seq ?_
    refine SP_region ?_
    refine SPL_y (y_move rfl) rfl ?_
    refine SPL_y (y_move rfl) rfl ?_
    have hq10 := hP
    refine SPL_one rfl (SP1_call (pr_loopFor x rc hr hq10) Tryz.call189 rfl rfl (by repeat (first | exact Part.nil _ | (apply Part.cons; (first | exact P0 | exact P1 | exact P2 | exact P3 | exact P4 | exact P5 | exact P6 | exact P7 | exact P8 | exact P9 | exact P10 | exact P11 | exact P12 | exact P13 | exact P14 | exact P15 | exact P16 | exact P17 | exact P18 | exact P19 | exact P20 | exact P21 | exact P22 | exact P23)) | (apply Part.flat; simp only [List.cons_append, List.nil_append]) | (apply Part.nilc))) ?_)
    rintro v10 post H' ⟨sn10, hN10, rfl⟩ hH
    try simp only [List.cons_append, List.nil_append] at hH
    subst hH
    refine SPL_y (y_assign rfl) rfl ?_
    refine SPL_nil ?_
    refine thenP_n ?_
    refine SP_ret ?_
    refine inBlockP_ret (thenP_ret (bodyP_ret (H' := [x.gs, x.b s', x.st, sn10]) (Res1 rfl rfl) (by repeat (first | exact Part.nil _ | (apply Part.cons; (first | exact P0 | exact P1 | exact P2 | exact P3 | exact P4 | exact P5 | exact P6 | exact P7 | exact P8 | exact P9 | exact P10 | exact P11 | exact P12 | exact P13 | exact P14 | exact P15 | exact P16 | exact P17 | exact P18 | exact P19 | exact P20 | exact P21 | exact P22 | exact P23)) | (apply Part.flat; simp only [List.cons_append, List.nil_append]) | (apply Part.nilc))) ?_))
    exact ⟨_, hN10, rfl⟩
  intro h8_0
  first | rw [if_neg h8_0] at hP | rw [if_pos (Decidable.not_not.1 h8_0)] at hP | skip
  refine SPL_y (y_assign rfl) rfl ?_
  refine SPL_nil ?_
  refine thenP_n ?_
  refine SP_cond_f rfl ?_
  refine SP_seq ?_
  refine SP_region ?_
  refine SPL_if (y_eql rfl rfl) rfl ?_ ?_
  · intro h11_0
    first | rw [if_pos h11_0] at hP | rw [if_neg h11_0] at hP | skip
    refine SPL_y (y_assign rfl) rfl ?_
    refine SPL_nil ?_
    refine thenP_n ?_
    refine SP_cond_t rfl ?_
    refine SP_seq ?_
    refine SP_region ?_
    refine SPL_y (y_move rfl) rfl ?_
    obtain ⟨s12, hq12, hP⟩ := bnd1 hP
    refine SPL_one rfl (SP1_call (pr_next x hq12) Tryz.call186 rfl rfl (by repeat (first | exact Part.nil _ | (apply Part.cons; (first | exact P0 | exact P1 | exact P2 | exact P3 | exact P4 | exact P5 | exact P6 | exact P7 | exact P8 | exact P9 | exact P10 | exact P11 | exact P12 | exact P13 | exact P14 | exact P15 | exact P16 | exact P17 | exact P18 | exact P19 | exact P20 | exact P21 | exact P22 | exact P23)) | (apply Part.flat; simp only [List.cons_append, List.nil_append]) | (apply Part.nilc))) ?_)
    rintro v post H' ⟨rfl, rfl⟩ hH
    try simp only [List.cons_append, List.nil_append] at hH
    subst hH
    refine SPL_nil ?_
    refine thenP_n ?_
    refine SP_seq ?_
    refine SP_region ?_
    refine SPL_y (y_move rfl) rfl ?_
    refine SPL_y (y_move rfl) rfl ?_
    refine SPL_y (y_sub rfl rfl (by omega)) rfl ?_
    obtain ⟨t13, s13, hq13, hP⟩ := bnd2 hP
    refine SPL_one rfl (SP1_call (hr.expr _ _ _ _ _ hq13) Tryz.call190 rfl rfl (by repeat (first | exact Part.nil _ | (apply Part.cons; (first | exact P0 | exact P1 | exact P2 | exact P3 | exact P4 | exact P5 | exact P6 | exact P7 | exact P8 | exact P9 | exact P10 | exact P11 | exact P12 | exact P13 | exact P14 | exact P15 | exact P16 | exact P17 | exact P18 | exact P19 | exact P20 | exact P21 | exact P22 | exact P23)) | (apply Part.flat; simp only [List.cons_append, List.nil_append]) | (apply Part.nilc))) ?_)
    rintro v13 post H' ⟨sn13, hN13, rfl⟩ hH
    try simp only [List.cons_append, List.nil_append] at hH
    subst hH
    refine SPL_y (y_assign rfl) rfl ?_
    refine SPL_nil ?_
    refine thenP_n ?_
    refine SP_seq ?_
    refine SP_seq ?_
    refine SP_region ?_
    refine SPL_y (y_move rfl) rfl ?_
    refine SPL_if (y_nE Tryz.underlying292 rfl (by assumption)) rfl ?_ ?_
    · intro h14_1
      first | rw [if_pos h14_1] at hP | rw [if_neg h14_1] at hP | skip
      refine SPL_nil ?_
      refine thenP_n ?_
      refine SP_cond_t rfl ?_
      refine SP_seq ?_
      refine SP_region ?_
      refine SPL_y (y_assign rfl) rfl ?_
      refine SPL_nil ?_
      refine thenP_n ?_
      refine SP_ret ?_
      refine thenP_ret (inBlockP_ret (thenP_ret (bodyP_ret (H' := [x.gs, x.b _, x.st, []]) (Res1 rfl rfl) (by repeat (first | exact Part.nil _ | (apply Part.cons; (first | exact P0 | exact P1 | exact P2 | exact P3 | exact P4 | exact P5 | exact P6 | exact P7 | exact P8 | exact P9 | exact P10 | exact P11 | exact P12 | exact P13 | exact P14 | exact P15 | exact P16 | exact P17 | exact P18 | exact P19 | exact P20 | exact P21 | exact P22 | exact P23)) | (apply Part.flat; simp only [List.cons_append, List.nil_append]) | (apply Part.nilc))) ?_)))
      injection hP with hP
      injection hP with h1 h2
      subst h1
      subst h2
      exact ⟨[], .nil, rfl⟩
    intro h14_1
    first | rw [if_neg h14_1] at hP | rw [if_pos (Decidable.not_not.1 h14_1)] at hP | skip
    obtain ⟨nb13, rfl⟩ := hN13.shape (by simpa using h14_1)
    refine SPL_nil ?_
    refine thenP_n ?_
    refine SP_cond_f rfl ?_
    refine SP_skip ?_
    refine thenP_n ?_
    refine SP_seq ?_
    refine SP_region ?_
    refine SPL_y (y_move rfl) rfl ?_
    refine SPL_y (y_move rfl) rfl ?_
    obtain ⟨r16, s16, hq16, hP⟩ := bnd2 hP
    refine SPL_one rfl (SP1_call (pr_body x rc hr (by omega) hq16) Tryz.call191 rfl rfl (by repeat (first | exact Part.nil _ | (apply Part.cons; (first | exact P0 | exact P1 | exact P2 | exact P3 | exact P4 | exact P5 | exact P6 | exact P7 | exact P8 | exact P9 | exact P10 | exact P11 | exact P12 | exact P13 | exact P14 | exact P15 | exact P16 | exact P17 | exact P18 | exact P19 | exact P20 | exact P21 | exact P22 | exact P23)) | (apply Part.flat; simp only [List.cons_append, List.nil_append]) | (apply Part.nilc))) ?_)
    rintro v post H' hL hH
    rcases r16 with _ | l16
    · obtain ⟨rfl, rfl⟩ := hL
      try simp only [List.cons_append, List.nil_append] at hH
      subst hH
      try dsimp only [cond_true, cond_false, Bool.true_or, Bool.false_or] at hP
      refine SPL_y (y_move rfl) rfl ?_
      refine SPL_y (y_ext rfl rfl) rfl ?_
      refine SPL_y (y_ext rfl rfl) rfl ?_
      refine SPL_y (y_assign rfl) rfl ?_
      refine SPL_y (y_assign rfl) rfl ?_
      refine SPL_nil ?_
      refine thenP_n ?_
      refine SP_seq ?_
      refine SP_seq ?_
      refine SP_region ?_
      refine SPL_y (y_move rfl) rfl ?_
      refine SPL_y (y_not_f rfl) rfl ?_
      refine SPL_nil ?_
      refine thenP_n ?_
      refine SP_cond_t rfl ?_
      refine SP_seq ?_
      refine SP_region ?_
      refine SPL_y (y_assign rfl) rfl ?_
      refine SPL_nil ?_
      refine thenP_n ?_
      refine SP_ret ?_
      refine thenP_ret (inBlockP_ret (thenP_ret (bodyP_ret (H' := [x.gs, x.b _, x.st, []]) (Res1 rfl rfl) (by repeat (first | exact Part.nil _ | (apply Part.cons; (first | exact P0 | exact P1 | exact P2 | exact P3 | exact P4 | exact P5 | exact P6 | exact P7 | exact P8 | exact P9 | exact P10 | exact P11 | exact P12 | exact P13 | exact P14 | exact P15 | exact P16 | exact P17 | exact P18 | exact P19 | exact P20 | exact P21 | exact P22 | exact P23)) | (apply Part.flat; simp only [List.cons_append, List.nil_append]) | (apply Part.nilc))) ?_)))
      injection hP with hP
      injection hP with h1 h2
      subst h1
      subst h2
      exact ⟨[], .nil, rfl⟩
    · obtain ⟨la16, lm16, lc16, ls16, hL16, rfl, rfl⟩ := hL
      try simp only [List.cons_append, List.nil_append] at hH
      subst hH
      try dsimp only [cond_true, cond_false, Bool.true_or, Bool.false_or] at hP
      refine SPL_y (y_move rfl) rfl ?_
      refine SPL_y (y_ext rfl rfl) rfl ?_
      refine SPL_y (y_ext rfl rfl) rfl ?_
      refine SPL_y (y_assign rfl) rfl ?_
      refine SPL_y (y_assign rfl) rfl ?_
      refine SPL_nil ?_
      refine thenP_n ?_
      refine SP_seq ?_
      refine SP_seq ?_
      refine SP_region ?_
      refine SPL_y (y_move rfl) rfl ?_
      refine SPL_y (y_not_t rfl) rfl ?_
      refine SPL_nil ?_
      refine thenP_n ?_
      refine SP_cond_f rfl ?_
      refine SP_skip ?_
      refine thenP_n ?_
      refine SP_seq ?_
      refine SP_region ?_
      refine SPL_y (y_fa fld_156_1 rfl) rfl ?_
      refine SPL_y (y_load Tryz.isAgg3 rfl (by repeat (first | exact Cell.amid hpre rfl | exact Cell.head rfl | apply Cell.tail))) rfl ?_
      refine SPL_y (y_move rfl) rfl ?_
      refine SPL_y (y_move rfl) rfl ?_
      refine SPL_y (y_build B297 rfl rfl (by simp only [fillL, List.foldl_cons, List.foldl_nil, List.set_cons_zero, List.set_cons_succ]; exact rfl)) rfl ?_
      refine SPL_one rfl (SP1_box rfl rfl rfl ?_)
      intro b62
      refine SPL_y (y_mki Tryz.underlying295 rfl rfl) rfl ?_
      refine SPL_y (y_assign rfl) rfl ?_
      refine SPL_nil ?_
      refine thenP_n ?_
      refine SP_ret ?_
      refine inBlockP_ret (thenP_ret (bodyP_ret (H' := [x.gs, x.b s16, x.st, List.flatten [blk b62 297 [I s.cur.at_, .iface t13.ty (pt nb13), .slice la16 lm16 lc16], sn13, ls16]]) (Res1 rfl rfl) (by repeat (first | exact Part.nil _ | (apply Part.cons; (first | exact P0 | exact P1 | exact P2 | exact P3 | exact P4 | exact P5 | exact P6 | exact P7 | exact P8 | exact P9 | exact P10 | exact P11 | exact P12 | exact P13 | exact P14 | exact P15 | exact P16 | exact P17 | exact P18 | exact P19 | exact P20 | exact P21 | exact P22 | exact P23)) | (apply Part.flat; simp only [List.cons_append, List.nil_append]) | (apply Part.nilc))) ?_))
      injection hP with hP
      injection hP with h1 h2
      subst h1
      subst h2
      exact ⟨_, .whl hN13 hL16, rfl⟩
  intro h11_0
  first | rw [if_neg h11_0] at hP | rw [if_pos (Decidable.not_not.1 h11_0)] at hP | skip
  refine SPL_y (y_assign rfl) rfl ?_
  refine SPL_nil ?_
  refine thenP_n ?_
  refine SP_cond_f rfl ?_
  refine SP_seq ?_
  refine SP_region ?_
  refine SPL_if (y_eql rfl rfl) rfl ?_ ?_
  · intro h20_0
    first | rw [if_pos h20_0] at hP | rw [if_neg h20_0] at hP | skip
    refine SPL_y (y_assign rfl) rfl ?_
    refine SPL_nil ?_
    refine thenP_n ?_
    refine SP_cond_t rfl ?_
    refine SP_seq ?_
    refine SP_seq ?_
    refine SP_region ?_
    refine SPL_y (y_move rfl) rfl ?_
    refine SPL_y (y_nil rfl) rfl ?_
    refine SPL_y (y_fa fld_170_3 rfl) rfl ?_
    refine SPL_y (y_fa fld_168_1 rfl) rfl ?_
    refine SPL_y (y_load Tryz.isAgg3 rfl (by repeat (first | exact Cell.amid hpre rfl | exact Cell.head rfl | apply Cell.tail))) rfl ?_
    refine SPL_if (y_eql rfl rfl) rfl ?_ ?_
    · intro h21_5
      first | rw [if_pos h21_5] at hP | rw [if_neg h21_5] at hP | skip
      refine SPL_nil ?_
      refine thenP_n ?_
      refine SP_cond_t rfl ?_
      refine SP_seq ?_
      refine SP_region ?_
      refine SPL_y (y_move rfl) rfl ?_
      refine SPL_one rfl (SP1_call (pr_fail x (15) _) Tryz.call70 rfl rfl (by repeat (first | exact Part.nil _ | (apply Part.cons; (first | exact P0 | exact P1 | exact P2 | exact P3 | exact P4 | exact P5 | exact P6 | exact P7 | exact P8 | exact P9 | exact P10 | exact P11 | exact P12 | exact P13 | exact P14 | exact P15 | exact P16 | exact P17 | exact P18 | exact P19 | exact P20 | exact P21 | exact P22 | exact P23)) | (apply Part.flat; simp only [List.cons_append, List.nil_append]) | (apply Part.nilc))) ?_)
      rintro v post H' ⟨rfl, rfl⟩ hH
      try simp only [List.cons_append, List.nil_append] at hH
      subst hH
      refine SPL_nil ?_
      refine thenP_n ?_
      refine SP_seq ?_
      refine SP_region ?_
      refine SPL_y (y_assign rfl) rfl ?_
      refine SPL_nil ?_
      refine thenP_n ?_
      refine SP_ret ?_
      refine thenP_ret (inBlockP_ret (thenP_ret (bodyP_ret (H' := [x.gs, x.b _, x.st, []]) (Res1 rfl rfl) (by repeat (first | exact Part.nil _ | (apply Part.cons; (first | exact P0 | exact P1 | exact P2 | exact P3 | exact P4 | exact P5 | exact P6 | exact P7 | exact P8 | exact P9 | exact P10 | exact P11 | exact P12 | exact P13 | exact P14 | exact P15 | exact P16 | exact P17 | exact P18 | exact P19 | exact P20 | exact P21 | exact P22 | exact P23)) | (apply Part.flat; simp only [List.cons_append, List.nil_append]) | (apply Part.nilc))) ?_)))
      injection hP with hP
      injection hP with h1 h2
      subst h1
      subst h2
      exact ⟨[], .nil, rfl⟩
    intro h21_5
    first | rw [if_neg h21_5] at hP | rw [if_pos (Decidable.not_not.1 h21_5)] at hP | skip
    refine SPL_nil ?_
    refine thenP_n ?_
    refine SP_cond_f rfl ?_
    refine SP_skip ?_
    refine thenP_n ?_
    refine SP_seq ?_
    refine SP_region ?_
    refine SPL_y (y_move rfl) rfl ?_
    obtain ⟨s24, hq24, hP⟩ := bnd1 hP
    refine SPL_one rfl (SP1_call (pr_next x hq24) Tryz.call186 rfl rfl (by repeat (first | exact Part.nil _ | (apply Part.cons; (first | exact P0 | exact P1 | exact P2 | exact P3 | exact P4 | exact P5 | exact P6 | exact P7 | exact P8 | exact P9 | exact P10 | exact P11 | exact P12 | exact P13 | exact P14 | exact P15 | exact P16 | exact P17 | exact P18 | exact P19 | exact P20 | exact P21 | exact P22 | exact P23)) | (apply Part.flat; simp only [List.cons_append, List.nil_append]) | (apply Part.nilc))) ?_)
    rintro v post H' ⟨rfl, rfl⟩ hH
    try simp only [List.cons_append, List.nil_append] at hH
    subst hH
    refine SPL_nil ?_
    refine thenP_n ?_
    refine SP_seq ?_
    refine SP_region ?_
    refine SPL_y (y_fa fld_156_1 rfl) rfl ?_
    refine SPL_y (y_load Tryz.isAgg3 rfl (by repeat (first | exact Cell.amid hpre rfl | exact Cell.head rfl | apply Cell.tail))) rfl ?_
    refine SPL_y (y_build B299 rfl rfl (by simp only [fillL, List.foldl_cons, List.foldl_nil, List.set_cons_zero, List.set_cons_succ]; exact rfl)) rfl ?_
    refine SPL_one rfl (SP1_box rfl rfl rfl ?_)
    intro b79
    refine SPL_y (y_mki Tryz.underlying234 rfl rfl) rfl ?_
    refine SPL_y (y_assign rfl) rfl ?_
    refine SPL_nil ?_
    refine thenP_n ?_
    refine SP_ret ?_
    refine inBlockP_ret (thenP_ret (bodyP_ret (H' := [x.gs, x.b s24, x.st, blk b79 299 [I s.cur.at_]]) (Res1 rfl rfl) (by repeat (first | exact Part.nil _ | (apply Part.cons; (first | exact P0 | exact P1 | exact P2 | exact P3 | exact P4 | exact P5 | exact P6 | exact P7 | exact P8 | exact P9 | exact P10 | exact P11 | exact P12 | exact P13 | exact P14 | exact P15 | exact P16 | exact P17 | exact P18 | exact P19 | exact P20 | exact P21 | exact P22 | exact P23)) | (apply Part.flat; simp only [List.cons_append, List.nil_append]) | (apply Part.nilc))) ?_))
    injection hP with hP
    injection hP with h1 h2
    subst h1
    subst h2
    exact ⟨_, .brk, rfl⟩
  intro h20_0
  first | rw [if_neg h20_0] at hP | rw [if_pos (Decidable.not_not.1 h20_0)] at hP | skip
  refine SPL_y (y_assign rfl) rfl ?_
  refine SPL_nil ?_
  refine thenP_n ?_
  refine SP_cond_f rfl ?_
  refine SP_seq ?_
  refine SP_region ?_
  refine SPL_if (y_eql rfl rfl) rfl ?_ ?_
  · intro h26_0
    first | rw [if_pos h26_0] at hP | rw [if_neg h26_0] at hP | skip
    refine SPL_y (y_assign rfl) rfl ?_
    refine SPL_nil ?_
    refine thenP_n ?_
    refine SP_cond_t rfl ?_
    refine SP_seq ?_
    refine SP_region ?_
    refine SPL_y (y_move rfl) rfl ?_
    obtain ⟨s27, hq27, hP⟩ := bnd1 hP
    refine SPL_one rfl (SP1_call (pr_next x hq27) Tryz.call186 rfl rfl (by repeat (first | exact Part.nil _ | (apply Part.cons; (first | exact P0 | exact P1 | exact P2 | exact P3 | exact P4 | exact P5 | exact P6 | exact P7 | exact P8 | exact P9 | exact P10 | exact P11 | exact P12 | exact P13 | exact P14 | exact P15 | exact P16 | exact P17 | exact P18 | exact P19 | exact P20 | exact P21 | exact P22 | exact P23)) | (apply Part.flat; simp only [List.cons_append, List.nil_append]) | (apply Part.nilc))) ?_)
    rintro v post H' ⟨rfl, rfl⟩ hH
    try simp only [List.cons_append, List.nil_append] at hH
    subst hH
    refine SPL_nil ?_
    refine thenP_n ?_
    refine SP_seq ?_
    refine SP_region ?_
    refine SPL_y (y_move rfl) rfl ?_
    refine SPL_y (y_move rfl) rfl ?_
    refine SPL_y (y_fa fld_156_1 rfl) rfl ?_
    refine SPL_y (y_load Tryz.isAgg3 rfl (by repeat (first | exact Cell.amid hpre rfl | exact Cell.head rfl | apply Cell.tail))) rfl ?_
    have hq28 := hP
    refine SPL_one rfl (SP1_call (pr_results x rc hr hq28) Tryz.call192 rfl rfl (by repeat (first | exact Part.nil _ | (apply Part.cons; (first | exact P0 | exact P1 | exact P2 | exact P3 | exact P4 | exact P5 | exact P6 | exact P7 | exact P8 | exact P9 | exact P10 | exact P11 | exact P12 | exact P13 | exact P14 | exact P15 | exact P16 | exact P17 | exact P18 | exact P19 | exact P20 | exact P21 | exact P22 | exact P23)) | (apply Part.flat; simp only [List.cons_append, List.nil_append]) | (apply Part.nilc))) ?_)
    rintro v28 post H' ⟨sn28, hN28, rfl⟩ hH
    try simp only [List.cons_append, List.nil_append] at hH
    subst hH
    refine SPL_y (y_assign rfl) rfl ?_
    refine SPL_nil ?_
    refine thenP_n ?_
    refine SP_ret ?_
    refine inBlockP_ret (thenP_ret (bodyP_ret (H' := [x.gs, x.b s', x.st, sn28]) (Res1 rfl rfl) (by repeat (first | exact Part.nil _ | (apply Part.cons; (first | exact P0 | exact P1 | exact P2 | exact P3 | exact P4 | exact P5 | exact P6 | exact P7 | exact P8 | exact P9 | exact P10 | exact P11 | exact P12 | exact P13 | exact P14 | exact P15 | exact P16 | exact P17 | exact P18 | exact P19 | exact P20 | exact P21 | exact P22 | exact P23)) | (apply Part.flat; simp only [List.cons_append, List.nil_append]) | (apply Part.nilc))) ?_))
    exact ⟨_, hN28, rfl⟩
  intro h26_0
  first | rw [if_neg h26_0] at hP | rw [if_pos (Decidable.not_not.1 h26_0)] at hP | skip
  refine SPL_y (y_assign rfl) rfl ?_
  refine SPL_nil ?_
  refine thenP_n ?_
  refine SP_cond_f rfl ?_
  refine SP_skip ?_
  refine inBlockP_n ?_
  refine thenP_n ?_
  refine SP_seq ?_
  refine SP_region ?_
  refine SPL_y (y_move rfl) rfl ?_
  refine SPL_y (y_move rfl) rfl ?_
  refine SPL_y (y_sub rfl rfl (by omega)) rfl ?_
  obtain ⟨t29, s29, hq29, hP⟩ := bnd2 hP
  refine SPL_one rfl (SP1_call (pr_post x rc hr hq29) Tryz.call193 rfl rfl (by repeat (first | exact Part.nil _ | (apply Part.cons; (first | exact P0 | exact P1 | exact P2 | exact P3 | exact P4 | exact P5 | exact P6 | exact P7 | exact P8 | exact P9 | exact P10 | exact P11 | exact P12 | exact P13 | exact P14 | exact P15 | exact P16 | exact P17 | exact P18 | exact P19 | exact P20 | exact P21 | exact P22 | exact P23)) | (apply Part.flat; simp only [List.cons_append, List.nil_append]) | (apply Part.nilc))) ?_)
  rintro v29 post H' ⟨sn29, hN29, rfl⟩ hH
  try simp only [List.cons_append, List.nil_append] at hH
  subst hH
  refine SPL_y (y_assign rfl) rfl ?_
  refine SPL_nil ?_
  refine thenP_n ?_
  refine SP_seq ?_
  refine SP_seq ?_
  refine SP_region ?_
  refine SPL_y (y_move rfl) rfl ?_
  refine SPL_if (y_nE Tryz.underlying292 rfl (by assumption)) rfl ?_ ?_
  · intro h30_1
    first | rw [if_pos h30_1] at hP | rw [if_neg h30_1] at hP | skip
    refine SPL_nil ?_
    refine thenP_n ?_
    refine SP_cond_t rfl ?_
    refine SP_seq ?_
    refine SP_region ?_
    refine SPL_y (y_assign rfl) rfl ?_
    refine SPL_nil ?_
    refine thenP_n ?_
    refine SP_ret ?_
    refine thenP_ret (bodyP_ret (H' := [x.gs, x.b _, x.st, []]) (Res1 rfl rfl) (by repeat (first | exact Part.nil _ | (apply Part.cons; (first | exact P0 | exact P1 | exact P2 | exact P3 | exact P4 | exact P5 | exact P6 | exact P7 | exact P8 | exact P9 | exact P10 | exact P11 | exact P12 | exact P13 | exact P14 | exact P15 | exact P16 | exact P17 | exact P18 | exact P19 | exact P20 | exact P21 | exact P22 | exact P23)) | (apply Part.flat; simp only [List.cons_append, List.nil_append]) | (apply Part.nilc))) ?_)
    injection hP with hP
    injection hP with h1 h2
    subst h1
    subst h2
    exact ⟨[], .nil, rfl⟩
  intro h30_1
  first | rw [if_neg h30_1] at hP | rw [if_pos (Decidable.not_not.1 h30_1)] at hP | skip
  obtain ⟨nb29, rfl⟩ := hN29.shape (by simpa using h30_1)
  refine SPL_nil ?_
  refine thenP_n ?_
  refine SP_cond_f rfl ?_
  refine SP_skip ?_
  refine thenP_n ?_
  refine SP_seq ?_
  refine SP_seq ?_
  refine SP_region ?_
  refine SPL_y (y_move rfl) rfl ?_
  refine SPL_y (y_nil rfl) rfl ?_
  refine SPL_y (y_fa fld_170_2 rfl) rfl ?_
  refine SPL_y (y_fa fld_156_0 rfl) rfl ?_
  refine SPL_y (y_load Tryz.isAgg154 rfl (by repeat (first | exact Cell.amid hpre rfl | exact Cell.head rfl | apply Cell.tail))) rfl ?_
  refine SPL_if (y_neq rfl rfl) rfl ?_ ?_
  · intro h32_5
    first | rw [if_pos h32_5] at hP | rw [if_neg h32_5] at hP | skip
    refine SPL_nil ?_
    refine thenP_n ?_
    refine SP_cond_t rfl ?_
    refine SP_seq ?_
    refine SP_region ?_
    refine SPL_y (y_move rfl) rfl ?_
    obtain ⟨q33, hty⟩ : ∃ q, Nat.beq t29.ty 302 = q := ⟨_, rfl⟩
    rw [hty] at hP
    refine SPL_y (y_assertQ Tryz.underlying302 rfl Tryz.zeroValue302 rfl hty) rfl ?_
    refine SPL_y (y_move rfl) rfl ?_
    refine SPL_y (y_ext rfl rfl) rfl ?_
    refine SPL_y (y_ext rfl rfl) rfl ?_
    rcases q33 with _ | _
    · try dsimp only [cond_true, cond_false, Bool.true_or, Bool.false_or] at hP
      refine SPL_y (y_assign rfl) rfl ?_
      refine SPL_y (y_assign rfl) rfl ?_
      refine SPL_nil ?_
      refine thenP_n ?_
      refine SP_seq ?_
      refine SP_seq ?_
      refine SP_region ?_
      refine SPL_y (y_move rfl) rfl ?_
      refine SPL_y (y_not_f rfl) rfl ?_
      refine SPL_nil ?_
      refine thenP_n ?_
      refine SP_cond_t rfl ?_
      refine SP_seq ?_
      refine SP_region ?_
      refine SPL_y (y_move rfl) rfl ?_
      refine SPL_one rfl (SP1_call (pr_fail x (15) _) Tryz.call70 rfl rfl (by repeat (first | exact Part.nil _ | (apply Part.cons; (first | exact P0 | exact P1 | exact P2 | exact P3 | exact P4 | exact P5 | exact P6 | exact P7 | exact P8 | exact P9 | exact P10 | exact P11 | exact P12 | exact P13 | exact P14 | exact P15 | exact P16 | exact P17 | exact P18 | exact P19 | exact P20 | exact P21 | exact P22 | exact P23)) | (apply Part.flat; simp only [List.cons_append, List.nil_append]) | (apply Part.nilc))) ?_)
      rintro v post H' ⟨rfl, rfl⟩ hH
      try simp only [List.cons_append, List.nil_append] at hH
      subst hH
      refine SPL_nil ?_
      refine thenP_n ?_
      refine SP_seq ?_
      refine SP_region ?_
      refine SPL_y (y_assign rfl) rfl ?_
      refine SPL_nil ?_
      refine thenP_n ?_
      refine SP_ret ?_
      refine thenP_ret (thenP_ret (bodyP_ret (H' := [x.gs, x.b _, x.st, []]) (Res1 rfl rfl) (by repeat (first | exact Part.nil _ | (apply Part.cons; (first | exact P0 | exact P1 | exact P2 | exact P3 | exact P4 | exact P5 | exact P6 | exact P7 | exact P8 | exact P9 | exact P10 | exact P11 | exact P12 | exact P13 | exact P14 | exact P15 | exact P16 | exact P17 | exact P18 | exact P19 | exact P20 | exact P21 | exact P22 | exact P23)) | (apply Part.flat; simp only [List.cons_append, List.nil_append]) | (apply Part.nilc))) ?_))
      injection hP with hP
      injection hP with h1 h2
      subst h1
      subst h2
      exact ⟨[], .nil, rfl⟩
    · try dsimp only [cond_true, cond_false, Bool.true_or, Bool.false_or] at hP
      refine SPL_y (y_assign rfl) rfl ?_
      refine SPL_y (y_assign rfl) rfl ?_
      refine SPL_nil ?_
      refine thenP_n ?_
      refine SP_seq ?_
      refine SP_seq ?_
      refine SP_region ?_
      refine SPL_y (y_move rfl) rfl ?_
      refine SPL_y (y_not_t rfl) rfl ?_
      refine SPL_nil ?_
      refine thenP_n ?_
      refine SP_cond_f rfl ?_
      refine SP_skip ?_
      refine thenP_n ?_
      refine SP_seq ?_
      refine SP_region ?_
      refine SPL_y (y_move rfl) rfl ?_
      refine SPL_y (y_build B306 rfl rfl (by simp only [fillL, List.foldl_cons, List.foldl_nil, List.set_cons_zero, List.set_cons_succ]; exact rfl)) rfl ?_
      refine SPL_one rfl (SP1_box rfl rfl rfl ?_)
      intro b113
      refine SPL_y (y_mki Tryz.underlying304 rfl rfl) rfl ?_
      refine SPL_y (y_assign rfl) rfl ?_
      refine SPL_nil ?_
      refine thenP_n ?_
      refine SP_ret ?_
      refine thenP_ret (bodyP_ret (H' := [x.gs, x.b s29, x.st, List.flatten [blk b113 306 [pt nb29], sn29]]) (Res1 rfl rfl) (by repeat (first | exact Part.nil _ | (apply Part.cons; (first | exact P0 | exact P1 | exact P2 | exact P3 | exact P4 | exact P5 | exact P6 | exact P7 | exact P8 | exact P9 | exact P10 | exact P11 | exact P12 | exact P13 | exact P14 | exact P15 | exact P16 | exact P17 | exact P18 | exact P19 | exact P20 | exact P21 | exact P22 | exact P23)) | (apply Part.flat; simp only [List.cons_append, List.nil_append]) | (apply Part.nilc))) ?_)
      have e302 : t29.ty = 302 := Nat.eq_of_beq_eq_true hty
      rw [e302] at hN29
      injection hP with hP
      injection hP with h1 h2
      subst h1
      subst h2
      exact ⟨_, .callS hN29, rfl⟩
  intro h32_5
  first | rw [if_neg h32_5] at hP | rw [if_pos (Decidable.not_not.1 h32_5)] at hP | skip
  refine SPL_nil ?_
  refine thenP_n ?_
  refine SP_cond_f rfl ?_
  refine SP_skip ?_
  refine thenP_n ?_
  refine SP_seq ?_
  refine SP_seq ?_
  refine SP_region ?_
  refine SPL_y (y_move rfl) rfl ?_
  refine SPL_nil ?_
  refine thenP_n ?_
  refine SP_block ?_
  refine SP_seq ?_
  refine SP_region ?_
  obtain ⟨q41, hty1⟩ : ∃ q, Nat.beq t29.ty 307 = q := ⟨_, rfl⟩
  rw [hty1] at hP
  obtain ⟨q42, hty2⟩ : ∃ q, Nat.beq t29.ty 308 = q := ⟨_, rfl⟩
  rw [hty2] at hP
  refine SPL_y (y_assertQ Tryz.underlying307 rfl Tryz.zeroValue307 rfl hty1) rfl ?_
  refine SPL_y (y_ext rfl rfl) rfl ?_
  rcases q41 with _ | _
  · try dsimp only [cond_true, cond_false, Bool.true_or, Bool.false_or] at hP
    refine SPL_y (y_ext rfl rfl) rfl ?_
    refine SPL_y (y_assertQ Tryz.underlying308 rfl Tryz.zeroValue308 rfl hty2) rfl ?_
    refine SPL_y (y_ext rfl rfl) rfl ?_
    rcases q42 with _ | _
    · try dsimp only [cond_true, cond_false, Bool.true_or, Bool.false_or] at hP
      refine SPL_y (y_ext rfl rfl) rfl ?_
      refine SPL_y (y_pick_f rfl rfl) rfl ?_
      refine SPL_nil ?_
      refine thenP_n ?_
      refine SP_cond_f rfl ?_
      refine SP_seq ?_
      refine SP_region ?_
      refine SPL_y (y_move rfl) rfl ?_
      refine SPL_one rfl (SP1_call (pr_fail x (15) _) Tryz.call70 rfl rfl (by repeat (first | exact Part.nil _ | (apply Part.cons; (first | exact P0 | exact P1 | exact P2 | exact P3 | exact P4 | exact P5 | exact P6 | exact P7 | exact P8 | exact P9 | exact P10 | exact P11 | exact P12 | exact P13 | exact P14 | exact P15 | exact P16 | exact P17 | exact P18 | exact P19 | exact P20 | exact P21 | exact P22 | exact P23)) | (apply Part.flat; simp only [List.cons_append, List.nil_append]) | (apply Part.nilc))) ?_)
      rintro v post H' ⟨rfl, rfl⟩ hH
      try simp only [List.cons_append, List.nil_append] at hH
      subst hH
      refine SPL_nil ?_
      refine thenP_n ?_
      refine SP_seq ?_
      refine SP_region ?_
      refine SPL_y (y_assign rfl) rfl ?_
      refine SPL_nil ?_
      refine thenP_n ?_
      refine SP_ret ?_
      refine inBlockP_ret (thenP_ret (bodyP_ret (H' := [x.gs, x.b _, x.st, []]) (Res1 rfl rfl) (by repeat (first | exact Part.nil _ | (apply Part.cons; (first | exact P0 | exact P1 | exact P2 | exact P3 | exact P4 | exact P5 | exact P6 | exact P7 | exact P8 | exact P9 | exact P10 | exact P11 | exact P12 | exact P13 | exact P14 | exact P15 | exact P16 | exact P17 | exact P18 | exact P19 | exact P20 | exact P21 | exact P22 | exact P23)) | (apply Part.flat; simp only [List.cons_append, List.nil_append]) | (apply Part.nilc))) ?_))
      injection hP with hP
      injection hP with h1 h2
      subst h1
      subst h2
      exact ⟨[], .nil, rfl⟩
    · try dsimp only [cond_true, cond_false, Bool.true_or, Bool.false_or] at hP
      refine SPL_y (y_ext rfl rfl) rfl ?_
      refine SPL_y (y_pick_f rfl rfl) rfl ?_
      refine SPL_nil ?_
      refine thenP_n ?_
      refine SP_cond_t rfl ?_
      refine SP_skip ?_
      refine inBlockP_n ?_
      refine thenP_n ?_
      refine SP_seq ?_
      refine SP_region ?_
      refine SPL_y (y_move rfl) rfl ?_
      refine SPL_y (y_nil rfl) rfl ?_
      refine SPL_y (y_fa fld_170_2 rfl) rfl ?_
      refine SPL_y (y_fa fld_156_1 rfl) rfl ?_
      refine SPL_y (y_load Tryz.isAgg3 rfl (by repeat (first | exact Cell.amid hpre rfl | exact Cell.head rfl | apply Cell.tail))) rfl ?_
      refine SPL_y (y_assign rfl) rfl ?_
      refine SPL_nil ?_
      refine thenP_n ?_
      refine SP_seq ?_
      refine SP_region ?_
      refine SPL_y (y_move rfl) rfl ?_
      obtain ⟨s43, hq43, hP⟩ := bnd1 hP
      refine SPL_one rfl (SP1_call (pr_next x hq43) Tryz.call186 rfl rfl (by repeat (first | exact Part.nil _ | (apply Part.cons; (first | exact P0 | exact P1 | exact P2 | exact P3 | exact P4 | exact P5 | exact P6 | exact P7 | exact P8 | exact P9 | exact P10 | exact P11 | exact P12 | exact P13 | exact P14 | exact P15 | exact P16 | exact P17 | exact P18 | exact P19 | exact P20 | exact P21 | exact P22 | exact P23)) | (apply Part.flat; simp only [List.cons_append, List.nil_append]) | (apply Part.nilc))) ?_)
      rintro v post H' ⟨rfl, rfl⟩ hH
      try simp only [List.cons_append, List.nil_append] at hH
      subst hH
      refine SPL_nil ?_
      refine thenP_n ?_
      refine SP_seq ?_
      refine SP_region ?_
      refine SPL_y (y_move rfl) rfl ?_
      refine SPL_y (y_move rfl) rfl ?_
      refine SPL_y (y_sub rfl rfl (by omega)) rfl ?_
      obtain ⟨t44, s44, hq44, hP⟩ := bnd2 hP
      refine SPL_one rfl (SP1_call (hr.expr _ _ _ _ _ hq44) Tryz.call190 rfl rfl (by repeat (first | exact Part.nil _ | (apply Part.cons; (first | exact P0 | exact P1 | exact P2 | exact P3 | exact P4 | exact P5 | exact P6 | exact P7 | exact P8 | exact P9 | exact P10 | exact P11 | exact P12 | exact P13 | exact P14 | exact P15 | exact P16 | exact P17 | exact P18 | exact P19 | exact P20 | exact P21 | exact P22 | exact P23)) | (apply Part.flat; simp only [List.cons_append, List.nil_append]) | (apply Part.nilc))) ?_)
      rintro v44 post H' ⟨sn44, hN44, rfl⟩ hH
      try simp only [List.cons_append, List.nil_append] at hH
      subst hH
      refine SPL_y (y_assign rfl) rfl ?_
      refine SPL_nil ?_
      refine thenP_n ?_
      refine SP_seq ?_
      refine SP_seq ?_
      refine SP_region ?_
      refine SPL_y (y_move rfl) rfl ?_
      refine SPL_if (y_nE Tryz.underlying292 rfl (by assumption)) rfl ?_ ?_
      · intro h45_1
        first | rw [if_pos h45_1] at hP | rw [if_neg h45_1] at hP | skip
        refine SPL_nil ?_
        refine thenP_n ?_
        refine SP_cond_t rfl ?_
        refine SP_seq ?_
        refine SP_region ?_
        refine SPL_y (y_assign rfl) rfl ?_
        refine SPL_nil ?_
        refine thenP_n ?_
        refine SP_ret ?_
        refine thenP_ret (bodyP_ret (H' := [x.gs, x.b _, x.st, []]) (Res1 rfl rfl) (by repeat (first | exact Part.nil _ | (apply Part.cons; (first | exact P0 | exact P1 | exact P2 | exact P3 | exact P4 | exact P5 | exact P6 | exact P7 | exact P8 | exact P9 | exact P10 | exact P11 | exact P12 | exact P13 | exact P14 | exact P15 | exact P16 | exact P17 | exact P18 | exact P19 | exact P20 | exact P21 | exact P22 | exact P23)) | (apply Part.flat; simp only [List.cons_append, List.nil_append]) | (apply Part.nilc))) ?_)
        injection hP with hP
        injection hP with h1 h2
        subst h1
        subst h2
        exact ⟨[], .nil, rfl⟩
      intro h45_1
      first | rw [if_neg h45_1] at hP | rw [if_pos (Decidable.not_not.1 h45_1)] at hP | skip
      obtain ⟨nb44, rfl⟩ := hN44.shape (by simpa using h45_1)
      refine SPL_nil ?_
      refine thenP_n ?_
      refine SP_cond_f rfl ?_
      refine SP_skip ?_
      refine thenP_n ?_
      refine SP_seq ?_
      refine SP_region ?_
      refine SPL_y (y_move rfl) rfl ?_
      refine SPL_y (y_move rfl) rfl ?_
      refine SPL_y (y_move rfl) rfl ?_
      refine SPL_y (y_build B311 rfl rfl (by simp only [fillL, List.foldl_cons, List.foldl_nil, List.set_cons_zero, List.set_cons_succ]; exact rfl)) rfl ?_
      refine SPL_one rfl (SP1_box rfl rfl rfl ?_)
      intro b142
      refine SPL_y (y_mki Tryz.underlying309 rfl rfl) rfl ?_
      refine SPL_y (y_assign rfl) rfl ?_
      refine SPL_nil ?_
      refine thenP_n ?_
      refine SP_ret ?_
      refine bodyP_ret (H' := [x.gs, x.b s44, x.st, List.flatten [blk b142 311 [I s29.cur.at_, .iface t29.ty (pt nb29), .iface t44.ty (pt nb44)], sn29, sn44]]) (Res1 rfl rfl) (by repeat (first | exact Part.nil _ | (apply Part.cons; (first | exact P0 | exact P1 | exact P2 | exact P3 | exact P4 | exact P5 | exact P6 | exact P7 | exact P8 | exact P9 | exact P10 | exact P11 | exact P12 | exact P13 | exact P14 | exact P15 | exact P16 | exact P17 | exact P18 | exact P19 | exact P20 | exact P21 | exact P22 | exact P23)) | (apply Part.flat; simp only [List.cons_append, List.nil_append]) | (apply Part.nilc))) ?_
      injection hP with hP
      injection hP with h1 h2
      subst h1
      subst h2
      exact ⟨_, .asg hN29 hN44, rfl⟩
  · try dsimp only [cond_true, cond_false, Bool.true_or, Bool.false_or] at hP
    refine SPL_y (y_ext rfl rfl) rfl ?_
    refine SPL_y (y_assertQ Tryz.underlying308 rfl Tryz.zeroValue308 rfl hty2) rfl ?_
    refine SPL_y (y_ext rfl rfl) rfl ?_
    rcases q42 with _ | _
    · try dsimp only [cond_true, cond_false, Bool.true_or, Bool.false_or] at hP
      refine SPL_y (y_ext rfl rfl) rfl ?_
      refine SPL_y (y_pick_t rfl rfl) rfl ?_
      refine SPL_nil ?_
      refine thenP_n ?_
      refine SP_cond_t rfl ?_
      refine SP_skip ?_
      refine inBlockP_n ?_
      refine thenP_n ?_
      refine SP_seq ?_
      refine SP_region ?_
      refine SPL_y (y_move rfl) rfl ?_
      refine SPL_y (y_nil rfl) rfl ?_
      refine SPL_y (y_fa fld_170_2 rfl) rfl ?_
      refine SPL_y (y_fa fld_156_1 rfl) rfl ?_
      refine SPL_y (y_load Tryz.isAgg3 rfl (by repeat (first | exact Cell.amid hpre rfl | exact Cell.head rfl | apply Cell.tail))) rfl ?_
      refine SPL_y (y_assign rfl) rfl ?_
      refine SPL_nil ?_
      refine thenP_n ?_
      refine SP_seq ?_
      refine SP_region ?_
      refine SPL_y (y_move rfl) rfl ?_
      obtain ⟨s43, hq43, hP⟩ := bnd1 hP
      refine SPL_one rfl (SP1_call (pr_next x hq43) Tryz.call186 rfl rfl (by repeat (first | exact Part.nil _ | (apply Part.cons; (first | exact P0 | exact P1 | exact P2 | exact P3 | exact P4 | exact P5 | exact P6 | exact P7 | exact P8 | exact P9 | exact P10 | exact P11 | exact P12 | exact P13 | exact P14 | exact P15 | exact P16 | exact P17 | exact P18 | exact P19 | exact P20 | exact P21 | exact P22 | exact P23)) | (apply Part.flat; simp only [List.cons_append, List.nil_append]) | (apply Part.nilc))) ?_)
      rintro v post H' ⟨rfl, rfl⟩ hH
      try simp only [List.cons_append, List.nil_append] at hH
      subst hH
      refine SPL_nil ?_
      refine thenP_n ?_
      refine SP_seq ?_
      refine SP_region ?_
      refine SPL_y (y_move rfl) rfl ?_
      refine SPL_y (y_move rfl) rfl ?_
      refine SPL_y (y_sub rfl rfl (by omega)) rfl ?_
      obtain ⟨t44, s44, hq44, hP⟩ := bnd2 hP
      refine SPL_one rfl (SP1_call (hr.expr _ _ _ _ _ hq44) Tryz.call190 rfl rfl (by repeat (first | exact Part.nil _ | (apply Part.cons; (first | exact P0 | exact P1 | exact P2 | exact P3 | exact P4 | exact P5 | exact P6 | exact P7 | exact P8 | exact P9 | exact P10 | exact P11 | exact P12 | exact P13 | exact P14 | exact P15 | exact P16 | exact P17 | exact P18 | exact P19 | exact P20 | exact P21 | exact P22 | exact P23)) | (apply Part.flat; simp only [List.cons_append, List.nil_append]) | (apply Part.nilc))) ?_)
      rintro v44 post H' ⟨sn44, hN44, rfl⟩ hH
      try simp only [List.cons_append, List.nil_append] at hH
      subst hH
      refine SPL_y (y_assign rfl) rfl ?_
      refine SPL_nil ?_
      refine thenP_n ?_
      refine SP_seq ?_
      refine SP_seq ?_
      refine SP_region ?_
      refine SPL_y (y_move rfl) rfl ?_
      refine SPL_if (y_nE Tryz.underlying292 rfl (by assumption)) rfl ?_ ?_
      · intro h45_1
        first | rw [if_pos h45_1] at hP | rw [if_neg h45_1] at hP | skip
        refine SPL_nil ?_
        refine thenP_n ?_
        refine SP_cond_t rfl ?_
        refine SP_seq ?_
        refine SP_region ?_
        refine SPL_y (y_assign rfl) rfl ?_
        refine SPL_nil ?_
        refine thenP_n ?_
        refine SP_ret ?_
        refine thenP_ret (bodyP_ret (H' := [x.gs, x.b _, x.st, []]) (Res1 rfl rfl) (by repeat (first | exact Part.nil _ | (apply Part.cons; (first | exact P0 | exact P1 | exact P2 | exact P3 | exact P4 | exact P5 | exact P6 | exact P7 | exact P8 | exact P9 | exact P10 | exact P11 | exact P12 | exact P13 | exact P14 | exact P15 | exact P16 | exact P17 | exact P18 | exact P19 | exact P20 | exact P21 | exact P22 | exact P23)) | (apply Part.flat; simp only [List.cons_append, List.nil_append]) | (apply Part.nilc))) ?_)
        injection hP with hP
        injection hP with h1 h2
        subst h1
        subst h2
        exact ⟨[], .nil, rfl⟩
      intro h45_1
      first | rw [if_neg h45_1] at hP | rw [if_pos (Decidable.not_not.1 h45_1)] at hP | skip
      obtain ⟨nb44, rfl⟩ := hN44.shape (by simpa using h45_1)
      refine SPL_nil ?_
      refine thenP_n ?_
      refine SP_cond_f rfl ?_
      refine SP_skip ?_
      refine thenP_n ?_
      refine SP_seq ?_
      refine SP_region ?_
      refine SPL_y (y_move rfl) rfl ?_
      refine SPL_y (y_move rfl) rfl ?_
      refine SPL_y (y_move rfl) rfl ?_
      refine SPL_y (y_build B311 rfl rfl (by simp only [fillL, List.foldl_cons, List.foldl_nil, List.set_cons_zero, List.set_cons_succ]; exact rfl)) rfl ?_
      refine SPL_one rfl (SP1_box rfl rfl rfl ?_)
      intro b142
      refine SPL_y (y_mki Tryz.underlying309 rfl rfl) rfl ?_
      refine SPL_y (y_assign rfl) rfl ?_
      refine SPL_nil ?_
      refine thenP_n ?_
      refine SP_ret ?_
      refine bodyP_ret (H' := [x.gs, x.b s44, x.st, List.flatten [blk b142 311 [I s29.cur.at_, .iface t29.ty (pt nb29), .iface t44.ty (pt nb44)], sn29, sn44]]) (Res1 rfl rfl) (by repeat (first | exact Part.nil _ | (apply Part.cons; (first | exact P0 | exact P1 | exact P2 | exact P3 | exact P4 | exact P5 | exact P6 | exact P7 | exact P8 | exact P9 | exact P10 | exact P11 | exact P12 | exact P13 | exact P14 | exact P15 | exact P16 | exact P17 | exact P18 | exact P19 | exact P20 | exact P21 | exact P22 | exact P23)) | (apply Part.flat; simp only [List.cons_append, List.nil_append]) | (apply Part.nilc))) ?_
      injection hP with hP
      injection hP with h1 h2
      subst h1
      subst h2
      exact ⟨_, .asg hN29 hN44, rfl⟩
    · try dsimp only [cond_true, cond_false, Bool.true_or, Bool.false_or] at hP
      refine SPL_y (y_ext rfl rfl) rfl ?_
      refine SPL_y (y_pick_t rfl rfl) rfl ?_
      refine SPL_nil ?_
      refine thenP_n ?_
      refine SP_cond_t rfl ?_
      refine SP_skip ?_
      refine inBlockP_n ?_
      refine thenP_n ?_
      refine SP_seq ?_
      refine SP_region ?_
      refine SPL_y (y_move rfl) rfl ?_
      refine SPL_y (y_nil rfl) rfl ?_
      refine SPL_y (y_fa fld_170_2 rfl) rfl ?_
      refine SPL_y (y_fa fld_156_1 rfl) rfl ?_
      refine SPL_y (y_load Tryz.isAgg3 rfl (by repeat (first | exact Cell.amid hpre rfl | exact Cell.head rfl | apply Cell.tail))) rfl ?_
      refine SPL_y (y_assign rfl) rfl ?_
      refine SPL_nil ?_
      refine thenP_n ?_
      refine SP_seq ?_
      refine SP_region ?_
      refine SPL_y (y_move rfl) rfl ?_
      obtain ⟨s43, hq43, hP⟩ := bnd1 hP
      refine SPL_one rfl (SP1_call (pr_next x hq43) Tryz.call186 rfl rfl (by repeat (first | exact Part.nil _ | (apply Part.cons; (first | exact P0 | exact P1 | exact P2 | exact P3 | exact P4 | exact P5 | exact P6 | exact P7 | exact P8 | exact P9 | exact P10 | exact P11 | exact P12 | exact P13 | exact P14 | exact P15 | exact P16 | exact P17 | exact P18 | exact P19 | exact P20 | exact P21 | exact P22 | exact P23)) | (apply Part.flat; simp only [List.cons_append, List.nil_append]) | (apply Part.nilc))) ?_)
      rintro v post H' ⟨rfl, rfl⟩ hH
      try simp only [List.cons_append, List.nil_append] at hH
      subst hH
      refine SPL_nil ?_
      refine thenP_n ?_
      refine SP_seq ?_
      refine SP_region ?_
      refine SPL_y (y_move rfl) rfl ?_
      refine SPL_y (y_move rfl) rfl ?_
      refine SPL_y (y_sub rfl rfl (by omega)) rfl ?_
      obtain ⟨t44, s44, hq44, hP⟩ := bnd2 hP
      refine SPL_one rfl (SP1_call (hr.expr _ _ _ _ _ hq44) Tryz.call190 rfl rfl (by repeat (first | exact Part.nil _ | (apply Part.cons; (first | exact P0 | exact P1 | exact P2 | exact P3 | exact P4 | exact P5 | exact P6 | exact P7 | exact P8 | exact P9 | exact P10 | exact P11 | exact P12 | exact P13 | exact P14 | exact P15 | exact P16 | exact P17 | exact P18 | exact P19 | exact P20 | exact P21 | exact P22 | exact P23)) | (apply Part.flat; simp only [List.cons_append, List.nil_append]) | (apply Part.nilc))) ?_)
      rintro v44 post H' ⟨sn44, hN44, rfl⟩ hH
      try simp only [List.cons_append, List.nil_append] at hH
      subst hH
      refine SPL_y (y_assign rfl) rfl ?_
      refine SPL_nil ?_
      refine thenP_n ?_
      refine SP_seq ?_
      refine SP_seq ?_
      refine SP_region ?_
      refine SPL_y (y_move rfl) rfl ?_
      refine SPL_if (y_nE Tryz.underlying292 rfl (by assumption)) rfl ?_ ?_
      · intro h45_1
        first | rw [if_pos h45_1] at hP | rw [if_neg h45_1] at hP | skip
        refine SPL_nil ?_
        refine thenP_n ?_
        refine SP_cond_t rfl ?_
        refine SP_seq ?_
        refine SP_region ?_
        refine SPL_y (y_assign rfl) rfl ?_
        refine SPL_nil ?_
        refine thenP_n ?_
        refine SP_ret ?_
        refine thenP_ret (bodyP_ret (H' := [x.gs, x.b _, x.st, []]) (Res1 rfl rfl) (by repeat (first | exact Part.nil _ | (apply Part.cons; (first | exact P0 | exact P1 | exact P2 | exact P3 | exact P4 | exact P5 | exact P6 | exact P7 | exact P8 | exact P9 | exact P10 | exact P11 | exact P12 | exact P13 | exact P14 | exact P15 | exact P16 | exact P17 | exact P18 | exact P19 | exact P20 | exact P21 | exact P22 | exact P23)) | (apply Part.flat; simp only [List.cons_append, List.nil_append]) | (apply Part.nilc))) ?_)
        injection hP with hP
        injection hP with h1 h2
        subst h1
        subst h2
        exact ⟨[], .nil, rfl⟩
      intro h45_1
      first | rw [if_neg h45_1] at hP | rw [if_pos (Decidable.not_not.1 h45_1)] at hP | skip
      obtain ⟨nb44, rfl⟩ := hN44.shape (by simpa using h45_1)
      refine SPL_nil ?_
      refine thenP_n ?_
      refine SP_cond_f rfl ?_
      refine SP_skip ?_
      refine thenP_n ?_
      refine SP_seq ?_
      refine SP_region ?_
      refine SPL_y (y_move rfl) rfl ?_
      refine SPL_y (y_move rfl) rfl ?_
      refine SPL_y (y_move rfl) rfl ?_
      refine SPL_y (y_build B311 rfl rfl (by simp only [fillL, List.foldl_cons, List.foldl_nil, List.set_cons_zero, List.set_cons_succ]; exact rfl)) rfl ?_
      refine SPL_one rfl (SP1_box rfl rfl rfl ?_)
      intro b142
      refine SPL_y (y_mki Tryz.underlying309 rfl rfl) rfl ?_
      refine SPL_y (y_assign rfl) rfl ?_
      refine SPL_nil ?_
      refine thenP_n ?_
      refine SP_ret ?_
      refine bodyP_ret (H' := [x.gs, x.b s44, x.st, List.flatten [blk b142 311 [I s29.cur.at_, .iface t29.ty (pt nb29), .iface t44.ty (pt nb44)], sn29, sn44]]) (Res1 rfl rfl) (by repeat (first | exact Part.nil _ | (apply Part.cons; (first | exact P0 | exact P1 | exact P2 | exact P3 | exact P4 | exact P5 | exact P6 | exact P7 | exact P8 | exact P9 | exact P10 | exact P11 | exact P12 | exact P13 | exact P14 | exact P15 | exact P16 | exact P17 | exact P18 | exact P19 | exact P20 | exact P21 | exact P22 | exact P23)) | (apply Part.flat; simp only [List.cons_append, List.nil_append]) | (apply Part.nilc))) ?_
      injection hP with hP
      injection hP with h1 h2
      subst h1
      subst h2
      exact ⟨_, .asg hN29 hN44, rfl⟩

theorem pr_block (x : PX) (rc : Rec) (hr : RecOk x rc) {n0 : Nat} {room : Int} {s s' : PS} {r : Option (List T)} (hP : blockP x.toks rc n0 room s = some (r, s')) : Spec Tryz.prog 69 [pt x.p, I room] [x.gs, x.b s, x.st] (Ret (lsOk x r s')) := by
  unfold blockP at hP
  obtain ⟨hrm, hP⟩ := grd hP
  refine Spec_enter Tryz.func69 rfl Tryz.ntmps69 rfl ?_
  show SP _ _ _ _ _ [(0, _), (1, _)] _
  refine SP_seq ?_
  refine SP_region ?_
  refine SPL_y (y_assign rfl) rfl ?_
  refine SPL_y (y_assign rfl) rfl ?_
  refine SPL_nil ?_
  refine thenP_n ?_
  refine SP_seq ?_
  refine SP_seq ?_
  refine SP_region ?_
  refine SPL_y (y_move rfl) rfl ?_
  refine SPL_if (y_leq rfl rfl) rfl ?_ ?_
  · intro h1_1
    first | rw [if_pos h1_1] at hP | rw [if_neg h1_1] at hP | skip
    refine SPL_nil ?_
    refine thenP_n ?_
    refine SP_cond_t rfl ?_
    refine SP_seq ?_
    refine SP_region ?_
    refine SPL_y (y_move rfl) rfl ?_
    refine SPL_one rfl (SP1_call (pr_fail x (16) _) Tryz.call70 rfl rfl (by repeat (first | exact Part.nil _ | (apply Part.cons; (first | exact P0 | exact P1 | exact P2 | exact P3 | exact P4 | exact P5 | exact P6 | exact P7 | exact P8 | exact P9 | exact P10 | exact P11 | exact P12 | exact P13 | exact P14 | exact P15 | exact P16 | exact P17 | exact P18 | exact P19 | exact P20 | exact P21 | exact P22 | exact P23)) | (apply Part.flat; simp only [List.cons_append, List.nil_append]) | (apply Part.nilc))) ?_)
    rintro v post H' ⟨rfl, rfl⟩ hH
    try simp only [List.cons_append, List.nil_append] at hH
    subst hH
    refine SPL_nil ?_
    refine thenP_n ?_
    refine SP_seq ?_
    refine SP_region ?_
    refine SPL_y (y_assign rfl) rfl ?_
    refine SPL_y (y_assign rfl) rfl ?_
    refine SPL_nil ?_
    refine thenP_n ?_
    refine SP_ret ?_
    refine thenP_ret (bodyP_ret (H' := [x.gs, x.b _, x.st]) (Res2 rfl rfl rfl) (by repeat (first | exact Part.nil _ | (apply Part.cons; (first | exact P0 | exact P1 | exact P2 | exact P3 | exact P4 | exact P5 | exact P6 | exact P7 | exact P8 | exact P9 | exact P10 | exact P11 | exact P12 | exact P13 | exact P14 | exact P15 | exact P16 | exact P17 | exact P18 | exact P19 | exact P20 | exact P21 | exact P22 | exact P23)) | (apply Part.flat; simp only [List.cons_append, List.nil_append]) | (apply Part.nilc))) ?_)
    injection hP with hP
    injection hP with h1 h2
    subst h1
    subst h2
    exact ⟨rfl, rfl⟩
  intro h1_1
  first | rw [if_neg h1_1] at hP | rw [if_pos (Decidable.not_not.1 h1_1)] at hP | skip
  refine SPL_nil ?_
  refine thenP_n ?_
  refine SP_cond_f rfl ?_
  refine SP_skip ?_
  refine thenP_n ?_
  refine SP_seq ?_
  refine SP_region ?_
  refine SPL_y (y_move rfl) rfl ?_
  refine SPL_y (y_nil rfl) rfl ?_
  refine SPL_y (y_fa fld_170_3 rfl) rfl ?_
  refine SPL_y (y_fa fld_168_0 rfl) rfl ?_
  refine SPL_y (y_load Tryz.isAgg3 rfl (by repeat (first | exact Cell.amid hpre rfl | exact Cell.head rfl | apply Cell.tail))) rfl ?_
  refine SPL_y (y_assign rfl) rfl ?_
  refine SPL_nil ?_
  refine thenP_n ?_
  refine SP_seq ?_
  refine SP_region ?_
  refine SPL_y (y_assign rfl) rfl ?_
  refine SPL_nil ?_
  refine thenP_n ?_
  refine SP_seq ?_
  refine SP_region ?_
  refine SPL_y (y_assign rfl) rfl ?_
  refine SPL_nil ?_
  refine thenP_n ?_
  refine SP_seq ?_
  refine SP_block ?_
  refine SP_loop (G := Nat × List T × PS × Option Addr × Nat × Nat × List Value × Seg × Seg × Bool) (fun g => g.1) (fun g => [(0, pt x.p), (1, I room), (6, I s.alive), (7, .slice g.2.2.2.1 g.2.2.2.2.1 g.2.2.2.2.2.1), (8, .bool g.2.2.2.2.2.2.2.2.2)]) (fun g => [x.gs, x.b g.2.2.1, x.st, g.2.2.2.2.2.2.2.1, g.2.2.2.2.2.2.2.2.1]) (fun g => IsM g.2.1 g.2.2.2.2.2.2.1 g.2.2.2.2.2.2.2.2.1 ∧ Arr 236 1 g.2.2.2.1 g.2.2.2.2.1 g.2.2.2.2.2.1 g.2.2.2.2.2.2.1 g.2.2.2.2.2.2.2.1 ∧ g.2.2.2.2.1 = g.2.1.length ∧ blockL x.toks rc n0 g.1 room s.alive g.2.1 g.2.2.2.2.2.2.2.2.2 g.2.2.1 = some (r, s')) ((n0, [], s, none, 0, 0, [], [], [], false)) (⟨.nil, Arr.nil _ _, rfl, hP⟩) (by repeat (first | exact Sub.nil _ | refine Sub.cons rfl ?_)) (by repeat (first | exact Part.nil _ | (apply Part.cons; (first | exact P0 | exact P1 | exact P2 | exact P3 | exact P4 | exact P5 | exact P6 | exact P7 | exact P8 | exact P9 | exact P10 | exact P11 | exact P12 | exact P13 | exact P14 | exact P15 | exact P16 | exact P17 | exact P18 | exact P19 | exact P20 | exact P21 | exact P22 | exact P23)) | (apply Part.flat; simp only [List.cons_append, List.nil_append]) | (apply Part.nilc))) ?_
  rintro ⟨n1, l, s1, a, m, c, vs, sa, sm, cl⟩ ⟨hM, hA, hm, hP⟩
  dsimp only at hM hA hm hP ⊢
  subst hm
  cases n1 with
  | zero => cases hP
  | succ n =>
  rw [blockL] at hP
  refine SP_seq ?_
  refine SP_seq ?_
  refine SP_region ?_
  refine SPL_y (y_move rfl) rfl ?_
  refine SPL_one rfl (SP1_call (pr_ends x _) Tryz.call125 rfl rfl (by repeat (first | exact Part.nil _ | (apply Part.cons; (first | exact P0 | exact P1 | exact P2 | exact P3 | exact P4 | exact P5 | exact P6 | exact P7 | exact P8 | exact P9 | exact P10 | exact P11 | exact P12 | exact P13 | exact P14 | exact P15 | exact P16 | exact P17 | exact P18 | exact P19 | exact P20 | exact P21 | exact P22 | exact P23)) | (apply Part.flat; simp only [List.cons_append, List.nil_append]) | (apply Part.nilc))) ?_)
  rintro v post H' ⟨rfl, rfl⟩ hH
  generalize hen : endsP s1 = en at hP ⊢
  rcases en with _ | _
  · try simp only [List.cons_append, List.nil_append] at hH
    subst hH
    try dsimp only [cond_true, cond_false, Bool.true_or, Bool.false_or] at hP
    refine SPL_y (y_not_f rfl) rfl ?_
    refine SPL_nil ?_
    refine thenP_n ?_
    refine SP_cond_t rfl ?_
    refine SP_skip ?_
    refine thenP_n ?_
    refine SP_block ?_
    refine SP_seq ?_
    refine SP_seq ?_
    refine SP_region ?_
    refine SPL_y (y_move rfl) rfl ?_
    refine SPL_nil ?_
    refine thenP_n ?_
    refine SP_cond_b rfl ?_ ?_
    · intro hc22
      first | rw [if_pos hc22] at hP | rw [if_neg hc22] at hP | skip
      refine SP_seq ?_
      rw [hc22] at hP
      dsimp only [cond_true] at hP
      refine SP_region ?_
      refine SPL_y (y_move rfl) rfl ?_
      refine SPL_one rfl (SP1_call (pr_fail x (15) _) Tryz.call70 rfl rfl (by repeat (first | exact Part.nil _ | (apply Part.cons; (first | exact P0 | exact P1 | exact P2 | exact P3 | exact P4 | exact P5 | exact P6 | exact P7 | exact P8 | exact P9 | exact P10 | exact P11 | exact P12 | exact P13 | exact P14 | exact P15 | exact P16 | exact P17 | exact P18 | exact P19 | exact P20 | exact P21 | exact P22 | exact P23)) | (apply Part.flat; simp only [List.cons_append, List.nil_append]) | (apply Part.nilc))) ?_)
      rintro v post H' ⟨rfl, rfl⟩ hH
      try simp only [List.cons_append, List.nil_append] at hH
      subst hH
      refine SPL_nil ?_
      refine thenP_n ?_
      refine SP_seq ?_
      refine SP_region ?_
      refine SPL_y (y_assign rfl) rfl ?_
      refine SPL_y (y_assign rfl) rfl ?_
      refine SPL_nil ?_
      refine thenP_n ?_
      refine SP_ret ?_
      refine thenP_ret (inBlockP_ret (thenP_ret (inBlockP_ret (thenP_ret (bodyP_ret (H' := [x.gs, x.b _, x.st]) (Res2 rfl rfl rfl) (by repeat (first | exact Part.nil _ | (apply Part.cons; (first | exact P0 | exact P1 | exact P2 | exact P3 | exact P4 | exact P5 | exact P6 | exact P7 | exact P8 | exact P9 | exact P10 | exact P11 | exact P12 | exact P13 | exact P14 | exact P15 | exact P16 | exact P17 | exact P18 | exact P19 | exact P20 | exact P21 | exact P22 | exact P23)) | (apply Part.flat; simp only [List.cons_append, List.nil_append]) | (apply Part.nilc))) ?_)))))
      injection hP with hP
      injection hP with h1 h2
      subst h1
      subst h2
      exact ⟨rfl, rfl⟩
    intro hc22
    first | rw [if_neg hc22] at hP | rw [if_pos (Decidable.not_not.1 hc22)] at hP | skip
    refine SP_skip ?_
    refine thenP_n ?_
    refine SP_seq ?_
    subst hc22
    dsimp only [cond_false] at hP
    refine SP_region ?_
    refine SPL_y (y_move rfl) rfl ?_
    refine SPL_y (y_move rfl) rfl ?_
    obtain ⟨t11, s11, hq11, hP⟩ := bnd2 hP
    refine SPL_one rfl (SP1_call (pr_stmt x rc hr hq11) Tryz.call126 rfl rfl (by repeat (first | exact Part.nil _ | (apply Part.cons; (first | exact P0 | exact P1 | exact P2 | exact P3 | exact P4 | exact P5 | exact P6 | exact P7 | exact P8 | exact P9 | exact P10 | exact P11 | exact P12 | exact P13 | exact P14 | exact P15 | exact P16 | exact P17 | exact P18 | exact P19 | exact P20 | exact P21 | exact P22 | exact P23)) | (apply Part.flat; simp only [List.cons_append, List.nil_append]) | (apply Part.nilc))) ?_)
    rintro v11 post H' ⟨sn11, hN11, rfl⟩ hH
    try simp only [List.cons_append, List.nil_append] at hH
    subst hH
    refine SPL_y (y_assign rfl) rfl ?_
    refine SPL_nil ?_
    refine thenP_n ?_
    refine SP_seq ?_
    refine SP_seq ?_
    refine SP_region ?_
    refine SPL_y (y_move rfl) rfl ?_
    refine SPL_if (y_nE Tryz.underlying231 rfl (by assumption)) rfl ?_ ?_
    · intro h12_1
      first | rw [if_pos h12_1] at hP | rw [if_neg h12_1] at hP | skip
      refine SPL_nil ?_
      refine thenP_n ?_
      refine SP_cond_t rfl ?_
      refine SP_seq ?_
      refine SP_region ?_
      refine SPL_y (y_assign rfl) rfl ?_
      refine SPL_y (y_assign rfl) rfl ?_
      refine SPL_nil ?_
      refine thenP_n ?_
      refine SP_ret ?_
      refine thenP_ret (inBlockP_ret (thenP_ret (inBlockP_ret (thenP_ret (bodyP_ret (H' := [x.gs, x.b _, x.st]) (Res2 rfl rfl rfl) (by repeat (first | exact Part.nil _ | (apply Part.cons; (first | exact P0 | exact P1 | exact P2 | exact P3 | exact P4 | exact P5 | exact P6 | exact P7 | exact P8 | exact P9 | exact P10 | exact P11 | exact P12 | exact P13 | exact P14 | exact P15 | exact P16 | exact P17 | exact P18 | exact P19 | exact P20 | exact P21 | exact P22 | exact P23)) | (apply Part.flat; simp only [List.cons_append, List.nil_append]) | (apply Part.nilc))) ?_)))))
      injection hP with hP
      injection hP with h1 h2
      subst h1
      subst h2
      exact ⟨rfl, rfl⟩
    intro h12_1
    first | rw [if_neg h12_1] at hP | rw [if_pos (Decidable.not_not.1 h12_1)] at hP | skip
    obtain ⟨nb11, rfl⟩ := hN11.shape (by simpa using h12_1)
    refine SPL_nil ?_
    refine thenP_n ?_
    refine SP_cond_f rfl ?_
    refine SP_skip ?_
    refine thenP_n ?_
    refine SP_seq ?_
    refine SP_seq ?_
    refine SP_region ?_
    refine SPL_y (y_move rfl) rfl ?_
    refine SPL_nil ?_
    refine thenP_n ?_
    refine SP_block ?_
    refine SP_seq ?_
    refine SP_region ?_
    obtain ⟨q1, hty1⟩ : ∃ q, Nat.beq t11.ty 233 = q := ⟨_, rfl⟩
    rw [hty1] at hP
    obtain ⟨q2, hty2⟩ : ∃ q, Nat.beq t11.ty 234 = q := ⟨_, rfl⟩
    rw [hty2] at hP
    refine SPL_y (y_assertQ Tryz.underlying233 rfl Tryz.zeroValue233 rfl hty1) rfl ?_
    refine SPL_y (y_ext rfl rfl) rfl ?_
    rcases q1 with _ | _
    · try dsimp only [cond_true, cond_false, Bool.true_or, Bool.false_or] at hP
      refine SPL_y (y_ext rfl rfl) rfl ?_
      refine SPL_y (y_assertQ Tryz.underlying234 rfl Tryz.zeroValue234 rfl hty2) rfl ?_
      refine SPL_y (y_ext rfl rfl) rfl ?_
      rcases q2 with _ | _
      · try dsimp only [cond_true, cond_false, Bool.true_or, Bool.false_or] at hP
        refine SPL_y (y_ext rfl rfl) rfl ?_
        refine SPL_y (y_pick_f rfl rfl) rfl ?_
        refine SPL_nil ?_
        refine thenP_n ?_
        refine SP_cond_f rfl ?_
        refine SP_skip ?_
        refine inBlockP_n ?_
        refine thenP_n ?_
        have hl1 : l.length < 100000 := Decidable.byContradiction fun q => by rw [if_neg q] at hP; cases hP
        rw [if_pos hl1] at hP
        refine SP_region ?_
        refine SPL_y (y_move rfl) rfl ?_
        refine SPL_y (y_move rfl) rfl ?_
        refine SPL_one rfl (SP1_slice1 el_172 rfl rfl rfl rfl rfl ?_)
        intro b40
        refine SPL_one rfl (SP1_append el_172 (.inl Tryz.underlying172) rfl rfl hA (by first | exact P0 | exact P1 | exact P2 | exact P3 | exact P4 | exact P5 | exact P6 | exact P7 | exact P8 | exact P9 | exact P10 | exact P11 | exact P12 | exact P13 | exact P14 | exact P15 | exact P16 | exact P17 | exact P18 | exact P19 | exact P20 | exact P21 | exact P22 | exact P23) (Src.of (by repeat (first | exact Cells.all _ | exact Cells.amid hpre rfl (by decide) | exact Cells.head rfl | apply Cells.tail)) (by rfl)) (by rfl) (by omega) rfl ?_)
        intro a2 c2 s2 h2
        refine SPL_y (y_assign rfl) rfl ?_
        refine SPL_nil ?_
        refine inBlockP_n ?_
        refine thenP_n ?_
        exact Again.intro ((n, l ++ [t11], s11, a2, l.length + 1, c2, vs ++ [.iface t11.ty (pt nb11)], s2, List.flatten [sm, sn11], false)) (⟨by simpa using hM.snoc hN11, h2, by simp, hP⟩) (by dsimp only; omega) (by repeat (first | exact Sub.nil _ | refine Sub.cons rfl ?_)) (by repeat (first | exact Part.nil _ | (apply Part.cons; (first | exact P0 | exact P1 | exact P2 | exact P3 | exact P4 | exact P5 | exact P6 | exact P7 | exact P8 | exact P9 | exact P10 | exact P11 | exact P12 | exact P13 | exact P14 | exact P15 | exact P16 | exact P17 | exact P18 | exact P19 | exact P20 | exact P21 | exact P22 | exact P23)) | (apply Part.flat; simp only [List.cons_append, List.nil_append]) | (apply Part.nilc)))
      · try dsimp only [cond_true, cond_false, Bool.true_or, Bool.false_or] at hP
        refine SPL_y (y_ext rfl rfl) rfl ?_
        refine SPL_y (y_pick_f rfl rfl) rfl ?_
        refine SPL_nil ?_
        refine thenP_n ?_
        refine SP_cond_t rfl ?_
        refine SP_region ?_
        refine SPL_y (y_assign rfl) rfl ?_
        refine SPL_nil ?_
        refine inBlockP_n ?_
        refine thenP_n ?_
        have hl1 : l.length < 100000 := Decidable.byContradiction fun q => by rw [if_neg q] at hP; cases hP
        rw [if_pos hl1] at hP
        refine SP_region ?_
        refine SPL_y (y_move rfl) rfl ?_
        refine SPL_y (y_move rfl) rfl ?_
        refine SPL_one rfl (SP1_slice1 el_172 rfl rfl rfl rfl rfl ?_)
        intro b40
        refine SPL_one rfl (SP1_append el_172 (.inl Tryz.underlying172) rfl rfl hA (by first | exact P0 | exact P1 | exact P2 | exact P3 | exact P4 | exact P5 | exact P6 | exact P7 | exact P8 | exact P9 | exact P10 | exact P11 | exact P12 | exact P13 | exact P14 | exact P15 | exact P16 | exact P17 | exact P18 | exact P19 | exact P20 | exact P21 | exact P22 | exact P23) (Src.of (by repeat (first | exact Cells.all _ | exact Cells.amid hpre rfl (by decide) | exact Cells.head rfl | apply Cells.tail)) (by rfl)) (by rfl) (by omega) rfl ?_)
        intro a2 c2 s2 h2
        refine SPL_y (y_assign rfl) rfl ?_
        refine SPL_nil ?_
        refine inBlockP_n ?_
        refine thenP_n ?_
        exact Again.intro ((n, l ++ [t11], s11, a2, l.length + 1, c2, vs ++ [.iface t11.ty (pt nb11)], s2, List.flatten [sm, sn11], true)) (⟨by simpa using hM.snoc hN11, h2, by simp, hP⟩) (by dsimp only; omega) (by repeat (first | exact Sub.nil _ | refine Sub.cons rfl ?_)) (by repeat (first | exact Part.nil _ | (apply Part.cons; (first | exact P0 | exact P1 | exact P2 | exact P3 | exact P4 | exact P5 | exact P6 | exact P7 | exact P8 | exact P9 | exact P10 | exact P11 | exact P12 | exact P13 | exact P14 | exact P15 | exact P16 | exact P17 | exact P18 | exact P19 | exact P20 | exact P21 | exact P22 | exact P23)) | (apply Part.flat; simp only [List.cons_append, List.nil_append]) | (apply Part.nilc)))
    · try dsimp only [cond_true, cond_false, Bool.true_or, Bool.false_or] at hP
      refine SPL_y (y_ext rfl rfl) rfl ?_
      refine SPL_y (y_assertQ Tryz.underlying234 rfl Tryz.zeroValue234 rfl hty2) rfl ?_
      refine SPL_y (y_ext rfl rfl) rfl ?_
      rcases q2 with _ | _
      · try dsimp only [cond_true, cond_false, Bool.true_or, Bool.false_or] at hP
        refine SPL_y (y_ext rfl rfl) rfl ?_
        refine SPL_y (y_pick_t rfl rfl) rfl ?_
        refine SPL_nil ?_
        refine thenP_n ?_
        refine SP_cond_t rfl ?_
        refine SP_region ?_
        refine SPL_y (y_assign rfl) rfl ?_
        refine SPL_nil ?_
        refine inBlockP_n ?_
        refine thenP_n ?_
        have hl1 : l.length < 100000 := Decidable.byContradiction fun q => by rw [if_neg q] at hP; cases hP
        rw [if_pos hl1] at hP
        refine SP_region ?_
        refine SPL_y (y_move rfl) rfl ?_
        refine SPL_y (y_move rfl) rfl ?_
        refine SPL_one rfl (SP1_slice1 el_172 rfl rfl rfl rfl rfl ?_)
        intro b40
        refine SPL_one rfl (SP1_append el_172 (.inl Tryz.underlying172) rfl rfl hA (by first | exact P0 | exact P1 | exact P2 | exact P3 | exact P4 | exact P5 | exact P6 | exact P7 | exact P8 | exact P9 | exact P10 | exact P11 | exact P12 | exact P13 | exact P14 | exact P15 | exact P16 | exact P17 | exact P18 | exact P19 | exact P20 | exact P21 | exact P22 | exact P23) (Src.of (by repeat (first | exact Cells.all _ | exact Cells.amid hpre rfl (by decide) | exact Cells.head rfl | apply Cells.tail)) (by rfl)) (by rfl) (by omega) rfl ?_)
        intro a2 c2 s2 h2
        refine SPL_y (y_assign rfl) rfl ?_
        refine SPL_nil ?_
        refine inBlockP_n ?_
        refine thenP_n ?_
        exact Again.intro ((n, l ++ [t11], s11, a2, l.length + 1, c2, vs ++ [.iface t11.ty (pt nb11)], s2, List.flatten [sm, sn11], true)) (⟨by simpa using hM.snoc hN11, h2, by simp, hP⟩) (by dsimp only; omega) (by repeat (first | exact Sub.nil _ | refine Sub.cons rfl ?_)) (by repeat (first | exact Part.nil _ | (apply Part.cons; (first | exact P0 | exact P1 | exact P2 | exact P3 | exact P4 | exact P5 | exact P6 | exact P7 | exact P8 | exact P9 | exact P10 | exact P11 | exact P12 | exact P13 | exact P14 | exact P15 | exact P16 | exact P17 | exact P18 | exact P19 | exact P20 | exact P21 | exact P22 | exact P23)) | (apply Part.flat; simp only [List.cons_append, List.nil_append]) | (apply Part.nilc)))
      · try dsimp only [cond_true, cond_false, Bool.true_or, Bool.false_or] at hP
        refine SPL_y (y_ext rfl rfl) rfl ?_
        refine SPL_y (y_pick_t rfl rfl) rfl ?_
        refine SPL_nil ?_
        refine thenP_n ?_
        refine SP_cond_t rfl ?_
        refine SP_region ?_
        refine SPL_y (y_assign rfl) rfl ?_
        refine SPL_nil ?_
        refine inBlockP_n ?_
        refine thenP_n ?_
        have hl1 : l.length < 100000 := Decidable.byContradiction fun q => by rw [if_neg q] at hP; cases hP
        rw [if_pos hl1] at hP
        refine SP_region ?_
        refine SPL_y (y_move rfl) rfl ?_
        refine SPL_y (y_move rfl) rfl ?_
        refine SPL_one rfl (SP1_slice1 el_172 rfl rfl rfl rfl rfl ?_)
        intro b40
        refine SPL_one rfl (SP1_append el_172 (.inl Tryz.underlying172) rfl rfl hA (by first | exact P0 | exact P1 | exact P2 | exact P3 | exact P4 | exact P5 | exact P6 | exact P7 | exact P8 | exact P9 | exact P10 | exact P11 | exact P12 | exact P13 | exact P14 | exact P15 | exact P16 | exact P17 | exact P18 | exact P19 | exact P20 | exact P21 | exact P22 | exact P23) (Src.of (by repeat (first | exact Cells.all _ | exact Cells.amid hpre rfl (by decide) | exact Cells.head rfl | apply Cells.tail)) (by rfl)) (by rfl) (by omega) rfl ?_)
        intro a2 c2 s2 h2
        refine SPL_y (y_assign rfl) rfl ?_
        refine SPL_nil ?_
        refine inBlockP_n ?_
        refine thenP_n ?_
        exact Again.intro ((n, l ++ [t11], s11, a2, l.length + 1, c2, vs ++ [.iface t11.ty (pt nb11)], s2, List.flatten [sm, sn11], true)) (⟨by simpa using hM.snoc hN11, h2, by simp, hP⟩) (by dsimp only; omega) (by repeat (first | exact Sub.nil _ | refine Sub.cons rfl ?_)) (by repeat (first | exact Part.nil _ | (apply Part.cons; (first | exact P0 | exact P1 | exact P2 | exact P3 | exact P4 | exact P5 | exact P6 | exact P7 | exact P8 | exact P9 | exact P10 | exact P11 | exact P12 | exact P13 | exact P14 | exact P15 | exact P16 | exact P17 | exact P18 | exact P19 | exact P20 | exact P21 | exact P22 | exact P23)) | (apply Part.flat; simp only [List.cons_append, List.nil_append]) | (apply Part.nilc)))
  · try simp only [List.cons_append, List.nil_append] at hH
    subst hH
    try dsimp only [cond_true, cond_false, Bool.true_or, Bool.false_or] at hP
    refine SPL_y (y_not_t rfl) rfl ?_
    refine SPL_nil ?_
    refine thenP_n ?_
    refine SP_cond_f rfl ?_
    refine SP_exit ?_
    refine thenP_exit ?_
    refine thenP_exit ?_
    refine inBlockP_hit ?_
    refine thenP_n ?_
    refine SP_seq ?_
    refine SP_region ?_
    refine SPL_y (y_move rfl) rfl ?_
    refine SPL_y (y_move rfl) rfl ?_
    refine SPL_y (y_nil rfl) rfl ?_
    refine SPL_y (y_fa fld_170_3 rfl) rfl ?_
    refine SPL_y (y_fa fld_168_0 rfl) rfl ?_
    refine SPL_one rfl (SP1_store Tryz.sizeOf3 rfl rfl rfl (by first | exact U0 | exact U1 | exact U2 | exact U3 | exact U4 | exact U5 | exact U6 | exact U7 | exact U8 | exact U9 | exact U10 | exact U11 | exact U12 | exact U13 | exact U14 | exact U15 | exact U16 | exact U17 | exact U18 | exact U19 | exact U20 | exact U21 | exact U22 | exact U23) (by rfl) ?_)
    refine SPL_nil ?_
    refine thenP_n ?_
    refine SP_seq ?_
    refine SP_region ?_
    refine SPL_y (y_move rfl) rfl ?_
    refine SPL_y (y_assign rfl) rfl ?_
    refine SPL_y (y_assign rfl) rfl ?_
    refine SPL_nil ?_
    refine thenP_n ?_
    refine SP_ret ?_
    refine bodyP_ret (H' := [x.gs, x.b { s1 with alive := s.alive }, x.st, List.flatten [sa, sm]]) (Res2 rfl rfl rfl) (by repeat (first | exact Part.nil _ | (apply Part.cons; (first | exact P0 | exact P1 | exact P2 | exact P3 | exact P4 | exact P5 | exact P6 | exact P7 | exact P8 | exact P9 | exact P10 | exact P11 | exact P12 | exact P13 | exact P14 | exact P15 | exact P16 | exact P17 | exact P18 | exact P19 | exact P20 | exact P21 | exact P22 | exact P23)) | (apply Part.flat; simp only [List.cons_append, List.nil_append]) | (apply Part.nilc))) ?_
    injection hP with hP
    injection hP with h1 h2
    subst h1
    subst h2
    exact ⟨_, _, _, _, IsL.mk hM hA, rfl, rfl⟩

theorem recP_ok (x : PX) : ∀ n, RecOk x (recP x.toks n)
  | 0 => ⟨fun _ _ _ _ h => (by cases h), fun _ _ _ _ _ h => (by cases h), fun _ _ _ _ h => (by cases h), fun _ _ _ _ h => (by cases h)⟩
  | n + 1 => ⟨fun _ _ _ _ h => pr_block x _ (recP_ok x n) h, fun _ _ _ _ _ h => pr_expr x _ (recP_ok x n) h, fun _ _ _ _ h => pr_unary x _ (recP_ok x n) h, fun _ _ _ _ h => pr_branch x _ (recP_ok x n) h⟩
end Go.Sl
