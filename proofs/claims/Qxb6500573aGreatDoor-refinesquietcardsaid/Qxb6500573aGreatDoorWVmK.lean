/- Walks: package vm, plain instructions (made by program out of short notes) -/
import Derived.Test.Qxb6500573aGreatDoorAX
namespace Go.Sl
open Go Go.Wl Go.Proofs
set_option maxRecDepth 100000
set_option linter.unusedVariables false
set_option linter.unusedSimpArgs false
set_option maxHeartbeats 16000000 in
theorem vm_plain (hN : NextSpec) (b : VB) (ph : PH) (hh : List TH) {m : VM} {th i : Nat} {fv : Value} (hfv : FP hh th i fv) {j : Nat} {p : Pr} (hpj : m.pg.protos[j]? = some p) (hjb : j < 1000000) {pv : Value} (hpv : PP ph j pv) {op x : Int} {o : Out Unit} (hP : plainM th i p op x m = some o) (seg : Seg) (hM : isVM b ph hh m seg) : Spec Tryz.prog 267 [pt b.vb, I th, tp b th, fv, pv, .int .u8 op, I x] [seg] (outR b ph hh u0 o) := by
  have hk : KF hh hh := KF.refl hh
  unfold plainM at hP
  obtain ⟨f, hf, hP⟩ := bnd1 hP
  obtain ⟨t, ht, hP⟩ := bnd1 hP
  unfold getT at ht
  have hr0 : ((0 ≤ f.base ∧ f.base ≤ 400000) ∧ (0 ≤ p.nslots ∧ p.nslots ≤ 1000000) ∧ f.base + p.nslots ≤ t.stack.length) ∧ 0 ≤ x ∧ x ≤ 400000 := Decidable.byContradiction fun q => by rw [if_neg q] at hP; cases hP
  rw [if_pos hr0] at hP
  have hfv0 := hfv
  obtain ⟨g, q, hg, hq, rfl⟩ := hfv
  obtain ⟨pq, rfl, hpq⟩ := pr_at hM hpj hjb hpv
  obtain ⟨g', oa1, oc1, hg', ht5, hrow, hstk, _, _⟩ := hM.thr ht
  rw [hg] at hg'
  injection hg' with hg'
  subst hg'
  have hstk0 : ∀ H : Hp, Cell (seg :: H) b.thb (0 + th * 5 + 2) (.slice g.sa t.stack.length g.sc) := fun H => hrow H 2 _ rfl
  have hsp : plainA g.sa ∧ t.stack.length ≤ g.sc := by
    obtain ⟨_, _, _, _, _, _, _, _, _, _, _, _, hss, _⟩ := hM.opnT ht hg
    exact ⟨hss.plainA, hss.mle⟩
  obtain ⟨wa, hwa⟩ : ∃ wa, wa = winA g.sa 3 g.sc f.base.toNat := ⟨_, rfl⟩
  have hnl : (f.base + p.nslots).toNat - f.base.toNat = p.nslots.toNat := by omega
  refine Spec_enter Tryz.func267 rfl Tryz.ntmps267 rfl ?_
  show SP _ _ _ _ _ [(0, _), (1, _), (2, _), (3, _), (4, _), (5, _), (6, _)] _
  refine SP_seq ?_
  refine SP_draw 999 [(0, 0), (1, 0), (2, 0), (4, 0), (5, 0), (6, 0), (8, 0), (9, 0), (10, 0), (12, 0), (13, 0), (14, 0), (3, 1), (7, 1), (11, 1), (15, 1), (16, 0), (17, 0), (18, 0)] mixed (by kernel_rfl) (fun _ _ _ _ _ h => h) (Part.refl _) ?_
  refine SPO_p rfl (y_move rfl) rfl ?_
  refine SPO_p rfl (y_nil rfl) rfl ?_
  refine SPO_p rfl (y_fa fld_263_2 rfl) rfl ?_
  refine SPO_p rfl (y_move rfl) rfl ?_
  refine SPO_p rfl (y_nil rfl) rfl ?_
  refine SPO_p rfl (y_fa fld_331_2 rfl) rfl ?_
  refine SPO_p rfl (y_move rfl) rfl ?_
  refine SPO_p rfl (y_nil rfl) rfl ?_
  refine SPO_p rfl (y_fa fld_331_2 rfl) rfl ?_
  refine SPO_p rfl (y_move rfl) rfl ?_
  refine SPO_p rfl (y_nil rfl) rfl ?_
  refine SPO_p rfl (y_fa fld_252_1 rfl) rfl ?_
  refine SPO_h rfl (y_load Tryz.isAgg90 rfl (by repeat (first | exact (hstk0 _) | apply Cell.tail))) rfl ?_
  refine SPO_h rfl (y_load Tryz.isAgg3 rfl (by repeat (first | exact (hM.frF hf hg hq rfl) | apply Cell.tail))) rfl ?_
  refine SPO_h rfl (y_load Tryz.isAgg3 rfl (by repeat (first | exact (hM.frF hf hg hq rfl) | apply Cell.tail))) rfl ?_
  refine SPO_h rfl (y_load Tryz.isAgg3 rfl (by repeat (first | exact ((hpq _).cell rfl) | apply Cell.tail))) rfl ?_
  refine SPO_p rfl (y_add rfl rfl (by omega)) rfl ?_
  refine SPO_p rfl (y_win (a := g.sa) hsp.1 Tryz.underlying90 Tryz.sizeOf42 rfl rfl rfl (by omega)) rfl ?_
  rw [← hwa, hnl]
  refine SPO_p rfl (y_assign rfl) rfl ?_
  refine SPO_nil ?_
  refine thenP_n ?_
  refine SP_seq ?_
  refine SP_region ?_
  refine SPL_y (y_move rfl) rfl ?_
  refine SPL_nil ?_
  refine thenP_n ?_
  refine SP_block ?_
  refine SP_seq ?_
  refine SP_region ?_
  refine SPL_if (y_eql rfl rfl) rfl ?_ ?_
  · intro h3_0
    first | rw [if_pos h3_0] at hP | rw [if_neg h3_0] at hP | skip
    as_aux_lemma =>
      refine SPL_y (y_assign rfl) rfl ?_
      refine SPL_nil ?_
      refine thenP_n ?_
      refine SP_cond_t rfl ?_
      obtain ⟨kc, hkc0, hP⟩ := bnd1 hP
      obtain ⟨hkr, hkg⟩ := constM_at hkc0
      obtain ⟨hkb, hkl0, _, _, _⟩ := getI_some hkg
      obtain ⟨kq, hka, hkq⟩ := hM.const hkg
      have hkh : ∀ H : Hp, Cell (seg :: H) b.vb (0 + 4) (.slice (some ⟨kq, 0, none⟩) m.pg.consts.length ph.kc) := fun H => by have := hM.consts (H := H); rw [hka] at this; exact this
      refine SP_draw 13 [(0, 0), (1, 0), (2, 0), (3, 0), (5, 0), (6, 0), (7, 0), (9, 0), (4, 1), (8, 1), (10, 0), (11, 0), (12, 1), (13, 3), (14, 3)] mixed (by kernel_rfl) (fun _ _ _ _ _ h => h) (Part.refl _) ?_
      refine SPO_p rfl (y_move rfl) rfl ?_
      refine SPO_p rfl (y_move rfl) rfl ?_
      refine SPO_p rfl (y_nil rfl) rfl ?_
      refine SPO_p rfl (y_fa fld_115_4 rfl) rfl ?_
      refine SPO_p rfl (y_move rfl) rfl ?_
      refine SPO_p rfl (y_nil rfl) rfl ?_
      refine SPO_p rfl (y_fa fld_252_4 rfl) rfl ?_
      refine SPO_p rfl (y_move rfl) rfl ?_
      refine SPO_h rfl (y_load Tryz.isAgg90 rfl (by repeat (first | exact (hkh _) | apply Cell.tail))) rfl ?_
      refine SPO_h rfl (y_load Tryz.isAgg3 rfl (by repeat (first | exact ((hpq _).cell rfl) | apply Cell.tail))) rfl ?_
      refine SPO_p rfl (y_add rfl rfl (by omega)) rfl ?_
      refine SPO_p rfl (y_ia Tryz.underlying90 Tryz.sizeOf42 rfl rfl (by omega)) rfl ?_
      refine SPO_h rfl (y_loads Tryz.isAgg42 Tryz.sizeOf42 rfl rfl (by repeat (first | exact (hkq _) | apply Cells.tail))) rfl ?_
      refine SPO_z (k := 0) rfl rfl (SP1_slice1 el_90 rfl rfl rfl rfl rfl ?_)
      intro b74
      unfold okU at hP
      obtain ⟨mp, hpu, hP⟩ := bnd1 hP
      refine SPO_z (k := 0) rfl rfl (SP1_call (vm_push b ph _ _ hpu _ hM) Tryz.call142 rfl rfl (by repeat (first | exact Part.nil _ | (apply Part.cons; with_reducible (first | exact P0 | exact P1 | exact P2 | exact P3 | exact P4 | exact P5 | exact P6 | exact P7 | exact P8 | exact P9 | exact P10 | exact P11 | exact P12 | exact P13 | exact P14 | exact P15 | exact P16 | exact P17 | exact P18 | exact P19 | exact P20 | exact P21 | exact P22 | exact P23)) | (apply Part.flat; simp only [List.cons_append, List.nil_append]) | (apply Part.cons; (first | exact P0 | exact P1 | exact P2 | exact P3 | exact P4 | exact P5 | exact P6 | exact P7 | exact P8 | exact P9 | exact P10 | exact P11 | exact P12 | exact P13 | exact P14 | exact P15 | exact P16 | exact P17 | exact P18 | exact P19 | exact P20 | exact P21 | exact P22 | exact P23)) | (apply Part.nilc))) ?_)
      rintro v post H' ⟨rfl, hhp, sgp, hkp, hM, rfl⟩ hH
      try simp only [List.cons_append, List.nil_append] at hH
      subst hH
      replace hk := hk.trans hkp
      refine SPO_nil ?_
      refine inBlockP_n ?_
      refine bodyP_end (H' := [sgp]) (Res0 rfl) (by repeat (first | exact Part.nil _ | (apply Part.cons; with_reducible (first | exact P0 | exact P1 | exact P2 | exact P3 | exact P4 | exact P5 | exact P6 | exact P7 | exact P8 | exact P9 | exact P10 | exact P11 | exact P12 | exact P13 | exact P14 | exact P15 | exact P16 | exact P17 | exact P18 | exact P19 | exact P20 | exact P21 | exact P22 | exact P23)) | (apply Part.flat; simp only [List.cons_append, List.nil_append]) | (apply Part.cons; (first | exact P0 | exact P1 | exact P2 | exact P3 | exact P4 | exact P5 | exact P6 | exact P7 | exact P8 | exact P9 | exact P10 | exact P11 | exact P12 | exact P13 | exact P14 | exact P15 | exact P16 | exact P17 | exact P18 | exact P19 | exact P20 | exact P21 | exact P22 | exact P23)) | (apply Part.nilc))) ?_
      injection hP with hP
      subst hP
      exact ⟨(), _, rfl, rfl, _, _, hk, hM, rfl⟩
  intro h3_0
  first | rw [if_neg h3_0] at hP | rw [if_pos (Decidable.not_not.1 h3_0)] at hP | skip
  as_aux_lemma =>
    refine SPL_y (y_assign rfl) rfl ?_
    refine SPL_nil ?_
    refine thenP_n ?_
    refine SP_cond_f rfl ?_
    refine SP_seq ?_
    refine SP_region ?_
    refine SPL_if (y_eql rfl rfl) rfl ?_ ?_
    · intro h5_0
      first | rw [if_pos h5_0] at hP | rw [if_neg h5_0] at hP | skip
      as_aux_lemma =>
        refine SPL_y (y_assign rfl) rfl ?_
        refine SPL_nil ?_
        refine thenP_n ?_
        refine SP_cond_t rfl ?_
        refine SP_region ?_
        refine SPL_y (y_move rfl) rfl ?_
        refine SPL_y (y_build B42 rfl rfl (by simp only [fillL, List.foldl_cons, List.foldl_nil, List.set_cons_zero, List.set_cons_succ]; exact rfl)) rfl ?_
        refine SPL_one rfl (SP1_slice1 el_90 rfl rfl rfl rfl rfl ?_)
        intro b80
        unfold okU at hP
        obtain ⟨mp, hpu, hP⟩ := bnd1 hP
        refine SPL_one rfl (SP1_call (vm_push b ph _ _ hpu _ hM) Tryz.call142 rfl rfl (by repeat (first | exact Part.nil _ | (apply Part.cons; with_reducible (first | exact P0 | exact P1 | exact P2 | exact P3 | exact P4 | exact P5 | exact P6 | exact P7 | exact P8 | exact P9 | exact P10 | exact P11 | exact P12 | exact P13 | exact P14 | exact P15 | exact P16 | exact P17 | exact P18 | exact P19 | exact P20 | exact P21 | exact P22 | exact P23)) | (apply Part.flat; simp only [List.cons_append, List.nil_append]) | (apply Part.cons; (first | exact P0 | exact P1 | exact P2 | exact P3 | exact P4 | exact P5 | exact P6 | exact P7 | exact P8 | exact P9 | exact P10 | exact P11 | exact P12 | exact P13 | exact P14 | exact P15 | exact P16 | exact P17 | exact P18 | exact P19 | exact P20 | exact P21 | exact P22 | exact P23)) | (apply Part.nilc))) ?_)
        rintro v post H' ⟨rfl, hhp, sgp, hkp, hM, rfl⟩ hH
        try simp only [List.cons_append, List.nil_append] at hH
        subst hH
        replace hk := hk.trans hkp
        refine SPL_nil ?_
        refine inBlockP_n ?_
        refine bodyP_end (H' := [sgp]) (Res0 rfl) (by repeat (first | exact Part.nil _ | (apply Part.cons; with_reducible (first | exact P0 | exact P1 | exact P2 | exact P3 | exact P4 | exact P5 | exact P6 | exact P7 | exact P8 | exact P9 | exact P10 | exact P11 | exact P12 | exact P13 | exact P14 | exact P15 | exact P16 | exact P17 | exact P18 | exact P19 | exact P20 | exact P21 | exact P22 | exact P23)) | (apply Part.flat; simp only [List.cons_append, List.nil_append]) | (apply Part.cons; (first | exact P0 | exact P1 | exact P2 | exact P3 | exact P4 | exact P5 | exact P6 | exact P7 | exact P8 | exact P9 | exact P10 | exact P11 | exact P12 | exact P13 | exact P14 | exact P15 | exact P16 | exact P17 | exact P18 | exact P19 | exact P20 | exact P21 | exact P22 | exact P23)) | (apply Part.nilc))) ?_
        injection hP with hP
        subst hP
        exact ⟨(), _, rfl, rfl, _, _, hk, hM, rfl⟩
    intro h5_0
    first | rw [if_neg h5_0] at hP | rw [if_pos (Decidable.not_not.1 h5_0)] at hP | skip
    as_aux_lemma =>
      refine SPL_y (y_assign rfl) rfl ?_
      refine SPL_nil ?_
      refine thenP_n ?_
      refine SP_cond_f rfl ?_
      refine SP_seq ?_
      refine SP_region ?_
      refine SPL_if (y_eql rfl rfl) rfl ?_ ?_
      · intro h7_0
        first | rw [if_pos h7_0] at hP | rw [if_neg h7_0] at hP | skip
        as_aux_lemma =>
          refine SPL_y (y_assign rfl) rfl ?_
          refine SPL_nil ?_
          refine thenP_n ?_
          refine SP_cond_t rfl ?_
          refine SP_region ?_
          refine SPL_y (y_move rfl) rfl ?_
          refine SPL_y (y_build B42 rfl rfl (by simp only [fillL, List.foldl_cons, List.foldl_nil, List.set_cons_zero, List.set_cons_succ]; exact rfl)) rfl ?_
          refine SPL_one rfl (SP1_slice1 el_90 rfl rfl rfl rfl rfl ?_)
          intro b86
          unfold okU at hP
          obtain ⟨mp, hpu, hP⟩ := bnd1 hP
          refine SPL_one rfl (SP1_call (vm_push b ph _ _ hpu _ hM) Tryz.call142 rfl rfl (by repeat (first | exact Part.nil _ | (apply Part.cons; with_reducible (first | exact P0 | exact P1 | exact P2 | exact P3 | exact P4 | exact P5 | exact P6 | exact P7 | exact P8 | exact P9 | exact P10 | exact P11 | exact P12 | exact P13 | exact P14 | exact P15 | exact P16 | exact P17 | exact P18 | exact P19 | exact P20 | exact P21 | exact P22 | exact P23)) | (apply Part.flat; simp only [List.cons_append, List.nil_append]) | (apply Part.cons; (first | exact P0 | exact P1 | exact P2 | exact P3 | exact P4 | exact P5 | exact P6 | exact P7 | exact P8 | exact P9 | exact P10 | exact P11 | exact P12 | exact P13 | exact P14 | exact P15 | exact P16 | exact P17 | exact P18 | exact P19 | exact P20 | exact P21 | exact P22 | exact P23)) | (apply Part.nilc))) ?_)
          rintro v post H' ⟨rfl, hhp, sgp, hkp, hM, rfl⟩ hH
          try simp only [List.cons_append, List.nil_append] at hH
          subst hH
          replace hk := hk.trans hkp
          refine SPL_nil ?_
          refine inBlockP_n ?_
          refine bodyP_end (H' := [sgp]) (Res0 rfl) (by repeat (first | exact Part.nil _ | (apply Part.cons; with_reducible (first | exact P0 | exact P1 | exact P2 | exact P3 | exact P4 | exact P5 | exact P6 | exact P7 | exact P8 | exact P9 | exact P10 | exact P11 | exact P12 | exact P13 | exact P14 | exact P15 | exact P16 | exact P17 | exact P18 | exact P19 | exact P20 | exact P21 | exact P22 | exact P23)) | (apply Part.flat; simp only [List.cons_append, List.nil_append]) | (apply Part.cons; (first | exact P0 | exact P1 | exact P2 | exact P3 | exact P4 | exact P5 | exact P6 | exact P7 | exact P8 | exact P9 | exact P10 | exact P11 | exact P12 | exact P13 | exact P14 | exact P15 | exact P16 | exact P17 | exact P18 | exact P19 | exact P20 | exact P21 | exact P22 | exact P23)) | (apply Part.nilc))) ?_
          injection hP with hP
          subst hP
          exact ⟨(), _, rfl, rfl, _, _, hk, hM, rfl⟩
      intro h7_0
      first | rw [if_neg h7_0] at hP | rw [if_pos (Decidable.not_not.1 h7_0)] at hP | skip
      as_aux_lemma =>
        refine SPL_y (y_assign rfl) rfl ?_
        refine SPL_nil ?_
        refine thenP_n ?_
        refine SP_cond_f rfl ?_
        refine SP_seq ?_
        refine SP_region ?_
        refine SPL_if (y_eql rfl rfl) rfl ?_ ?_
        · intro h9_0
          first | rw [if_pos h9_0] at hP | rw [if_neg h9_0] at hP | skip
          as_aux_lemma =>
            refine SPL_y (y_assign rfl) rfl ?_
            refine SPL_nil ?_
            refine thenP_n ?_
            refine SP_cond_t rfl ?_
            refine SP_region ?_
            refine SPL_y (y_move rfl) rfl ?_
            refine SPL_y (y_build B42 rfl rfl (by simp only [fillL, List.foldl_cons, List.foldl_nil, List.set_cons_zero, List.set_cons_succ]; exact rfl)) rfl ?_
            refine SPL_one rfl (SP1_slice1 el_90 rfl rfl rfl rfl rfl ?_)
            intro b92
            unfold okU at hP
            obtain ⟨mp, hpu, hP⟩ := bnd1 hP
            refine SPL_one rfl (SP1_call (vm_push b ph _ _ hpu _ hM) Tryz.call142 rfl rfl (by repeat (first | exact Part.nil _ | (apply Part.cons; with_reducible (first | exact P0 | exact P1 | exact P2 | exact P3 | exact P4 | exact P5 | exact P6 | exact P7 | exact P8 | exact P9 | exact P10 | exact P11 | exact P12 | exact P13 | exact P14 | exact P15 | exact P16 | exact P17 | exact P18 | exact P19 | exact P20 | exact P21 | exact P22 | exact P23)) | (apply Part.flat; simp only [List.cons_append, List.nil_append]) | (apply Part.cons; (first | exact P0 | exact P1 | exact P2 | exact P3 | exact P4 | exact P5 | exact P6 | exact P7 | exact P8 | exact P9 | exact P10 | exact P11 | exact P12 | exact P13 | exact P14 | exact P15 | exact P16 | exact P17 | exact P18 | exact P19 | exact P20 | exact P21 | exact P22 | exact P23)) | (apply Part.nilc))) ?_)
            rintro v post H' ⟨rfl, hhp, sgp, hkp, hM, rfl⟩ hH
            try simp only [List.cons_append, List.nil_append] at hH
            subst hH
            replace hk := hk.trans hkp
            refine SPL_nil ?_
            refine inBlockP_n ?_
            refine bodyP_end (H' := [sgp]) (Res0 rfl) (by repeat (first | exact Part.nil _ | (apply Part.cons; with_reducible (first | exact P0 | exact P1 | exact P2 | exact P3 | exact P4 | exact P5 | exact P6 | exact P7 | exact P8 | exact P9 | exact P10 | exact P11 | exact P12 | exact P13 | exact P14 | exact P15 | exact P16 | exact P17 | exact P18 | exact P19 | exact P20 | exact P21 | exact P22 | exact P23)) | (apply Part.flat; simp only [List.cons_append, List.nil_append]) | (apply Part.cons; (first | exact P0 | exact P1 | exact P2 | exact P3 | exact P4 | exact P5 | exact P6 | exact P7 | exact P8 | exact P9 | exact P10 | exact P11 | exact P12 | exact P13 | exact P14 | exact P15 | exact P16 | exact P17 | exact P18 | exact P19 | exact P20 | exact P21 | exact P22 | exact P23)) | (apply Part.nilc))) ?_
            injection hP with hP
            subst hP
            exact ⟨(), _, rfl, rfl, _, _, hk, hM, rfl⟩
        intro h9_0
        first | rw [if_neg h9_0] at hP | rw [if_pos (Decidable.not_not.1 h9_0)] at hP | skip
        as_aux_lemma =>
          refine SPL_y (y_assign rfl) rfl ?_
          refine SPL_nil ?_
          refine thenP_n ?_
          refine SP_cond_f rfl ?_
          refine SP_seq ?_
          refine SP_region ?_
          refine SPL_if (y_eql rfl rfl) rfl ?_ ?_
          · intro h11_0
            first | rw [if_pos h11_0] at hP | rw [if_neg h11_0] at hP | skip
            as_aux_lemma =>
              refine SPL_y (y_assign rfl) rfl ?_
              refine SPL_nil ?_
              refine thenP_n ?_
              refine SP_cond_t rfl ?_
              have hxs : x < p.nslots := Decidable.byContradiction fun q => by rw [if_neg q] at hP; cases hP
              rw [if_pos hxs] at hP
              unfold pGetL at hP
              obtain ⟨v12, hv12, hP⟩ := bnd1 hP
              have hv12' := getS_at ht hv12
              obtain ⟨sq, hsa, hsc⟩ := hstk _ _ hv12'
              have hwa1 : wa = some ⟨sq, 0 + f.base.toNat * 3, none⟩ := by rw [hwa, hsa, winA_some (by omega)]
              subst hwa1
              have hs12 : ∀ H : Hp, Cells (seg :: H) sq (0 + f.base.toNat * 3 + x.toNat * 3) (valV v12) := fun H => by
                have := hsc H
                rwa [show 0 + ((slotI f x : Nat) : Int).toNat * 3 = 0 + f.base.toNat * 3 + x.toNat * 3 from by unfold slotI; omega] at this
              refine SP_region ?_
              refine SPL_y (y_move rfl) rfl ?_
              refine SPL_y (y_move rfl) rfl ?_
              refine SPL_y (y_move rfl) rfl ?_
              refine SPL_y (y_ia Tryz.underlying90 Tryz.sizeOf42 rfl rfl (by omega)) rfl ?_
              refine SPL_y (y_loads Tryz.isAgg42 Tryz.sizeOf42 rfl rfl (by repeat (first | exact (hs12 _) | apply Cells.tail))) rfl ?_
              refine SPL_one rfl (SP1_slice1 el_90 rfl rfl rfl rfl rfl ?_)
              intro b101
              unfold okU at hP
              obtain ⟨mp, hpu, hP⟩ := bnd1 hP
              refine SPL_one rfl (SP1_call (vm_push b ph _ _ hpu _ hM) Tryz.call142 rfl rfl (by repeat (first | exact Part.nil _ | (apply Part.cons; with_reducible (first | exact P0 | exact P1 | exact P2 | exact P3 | exact P4 | exact P5 | exact P6 | exact P7 | exact P8 | exact P9 | exact P10 | exact P11 | exact P12 | exact P13 | exact P14 | exact P15 | exact P16 | exact P17 | exact P18 | exact P19 | exact P20 | exact P21 | exact P22 | exact P23)) | (apply Part.flat; simp only [List.cons_append, List.nil_append]) | (apply Part.cons; (first | exact P0 | exact P1 | exact P2 | exact P3 | exact P4 | exact P5 | exact P6 | exact P7 | exact P8 | exact P9 | exact P10 | exact P11 | exact P12 | exact P13 | exact P14 | exact P15 | exact P16 | exact P17 | exact P18 | exact P19 | exact P20 | exact P21 | exact P22 | exact P23)) | (apply Part.nilc))) ?_)
              rintro v post H' ⟨rfl, hhp, sgp, hkp, hM, rfl⟩ hH
              try simp only [List.cons_append, List.nil_append] at hH
              subst hH
              replace hk := hk.trans hkp
              refine SPL_nil ?_
              refine inBlockP_n ?_
              refine bodyP_end (H' := [sgp]) (Res0 rfl) (by repeat (first | exact Part.nil _ | (apply Part.cons; with_reducible (first | exact P0 | exact P1 | exact P2 | exact P3 | exact P4 | exact P5 | exact P6 | exact P7 | exact P8 | exact P9 | exact P10 | exact P11 | exact P12 | exact P13 | exact P14 | exact P15 | exact P16 | exact P17 | exact P18 | exact P19 | exact P20 | exact P21 | exact P22 | exact P23)) | (apply Part.flat; simp only [List.cons_append, List.nil_append]) | (apply Part.cons; (first | exact P0 | exact P1 | exact P2 | exact P3 | exact P4 | exact P5 | exact P6 | exact P7 | exact P8 | exact P9 | exact P10 | exact P11 | exact P12 | exact P13 | exact P14 | exact P15 | exact P16 | exact P17 | exact P18 | exact P19 | exact P20 | exact P21 | exact P22 | exact P23)) | (apply Part.nilc))) ?_
              injection hP with hP
              subst hP
              exact ⟨(), _, rfl, rfl, _, _, hk, hM, rfl⟩
          intro h11_0
          first | rw [if_neg h11_0] at hP | rw [if_pos (Decidable.not_not.1 h11_0)] at hP | skip
          as_aux_lemma =>
            refine SPL_y (y_assign rfl) rfl ?_
            refine SPL_nil ?_
            refine thenP_n ?_
            refine SP_cond_f rfl ?_
            refine SP_seq ?_
            refine SP_region ?_
            refine SPL_if (y_eql rfl rfl) rfl ?_ ?_
            · intro h13_0
              first | rw [if_pos h13_0] at hP | rw [if_neg h13_0] at hP | skip
              as_aux_lemma =>
                refine SPL_y (y_assign rfl) rfl ?_
                refine SPL_nil ?_
                refine thenP_n ?_
                refine SP_cond_t rfl ?_
                have hxs : x < p.nslots := Decidable.byContradiction fun q => by rw [if_neg q] at hP; cases hP
                rw [if_pos hxs] at hP
                unfold pSetL at hP
                refine SP_region ?_
                refine SPL_y (y_move rfl) rfl ?_
                refine SPL_y (y_move rfl) rfl ?_
                refine SPL_y (y_move rfl) rfl ?_
                obtain ⟨v14, m14, hq14, hP⟩ := bnd2 hP
                refine SPL_one rfl (SP1_call (vm_pop b ph _ hq14 _ hM) Tryz.call264 rfl rfl (by repeat (first | exact Part.nil _ | (apply Part.cons; with_reducible (first | exact P0 | exact P1 | exact P2 | exact P3 | exact P4 | exact P5 | exact P6 | exact P7 | exact P8 | exact P9 | exact P10 | exact P11 | exact P12 | exact P13 | exact P14 | exact P15 | exact P16 | exact P17 | exact P18 | exact P19 | exact P20 | exact P21 | exact P22 | exact P23)) | (apply Part.flat; simp only [List.cons_append, List.nil_append]) | (apply Part.cons; (first | exact P0 | exact P1 | exact P2 | exact P3 | exact P4 | exact P5 | exact P6 | exact P7 | exact P8 | exact P9 | exact P10 | exact P11 | exact P12 | exact P13 | exact P14 | exact P15 | exact P16 | exact P17 | exact P18 | exact P19 | exact P20 | exact P21 | exact P22 | exact P23)) | (apply Part.nilc))) ?_)
                rintro v post H' ⟨rfl, sg14, hM, rfl⟩ hH
                try simp only [List.cons_append, List.nil_append] at hH
                subst hH
                unfold okU at hP
                obtain ⟨m14b, hst14, hP⟩ := bnd1 hP
                obtain ⟨t14, ht14, hil14', _⟩ := setS_at hst14
                obtain ⟨g'', _, _, hg'', _, _, hstk14, _⟩ := hM.thr ht14
                rw [hg] at hg''
                injection hg'' with hg''
                subst hg''
                obtain ⟨sq, hsa, _⟩ := hstk14 ((slotI f x : Nat) : Int) t14.stack[slotI f x] (getI_nat (List.getElem?_eq_getElem hil14') (by unfold slotI; omega))
                have hwa1 : wa = some ⟨sq, 0 + f.base.toNat * 3, none⟩ := by rw [hwa, hsa, winA_some (by omega)]
                subst hwa1
                obtain ⟨l14, sp14, sgs14, hil14, hup14, hM⟩ := setS_upd hM hg hsa hst14
                refine SPL_y (y_ia Tryz.underlying90 Tryz.sizeOf42 rfl rfl (by omega)) rfl ?_
                rw [show 0 + f.base.toNat * 3 + x.toNat * 3 = 0 + ((slotI f x : Nat) : Int).toNat * 3 from by unfold slotI; omega]
                refine SPL_one rfl (SP1_storesF (l := l14) (x := v14) (vs := valV v14) (q := 0) (j := ((slotI f x : Nat) : Int)) valV_len rfl hil14 rfl (by decide) Tryz.sizeOf42 rfl rfl rfl rfl rfl (by repeat (first | exact hup14 _ | apply Upd.tail)) ?_)
                refine SPL_nil ?_
                refine inBlockP_n ?_
                refine bodyP_end (H' := [sgs14]) (Res0 rfl) (by repeat (first | exact Part.nil _ | (apply Part.cons; with_reducible (first | exact P0 | exact P1 | exact P2 | exact P3 | exact P4 | exact P5 | exact P6 | exact P7 | exact P8 | exact P9 | exact P10 | exact P11 | exact P12 | exact P13 | exact P14 | exact P15 | exact P16 | exact P17 | exact P18 | exact P19 | exact P20 | exact P21 | exact P22 | exact P23)) | (apply Part.flat; simp only [List.cons_append, List.nil_append]) | (apply Part.cons; (first | exact P0 | exact P1 | exact P2 | exact P3 | exact P4 | exact P5 | exact P6 | exact P7 | exact P8 | exact P9 | exact P10 | exact P11 | exact P12 | exact P13 | exact P14 | exact P15 | exact P16 | exact P17 | exact P18 | exact P19 | exact P20 | exact P21 | exact P22 | exact P23)) | (apply Part.nilc))) ?_
                injection hP with hP
                subst hP
                exact ⟨(), _, rfl, rfl, _, _, hk, hM, rfl⟩
            intro h13_0
            first | rw [if_neg h13_0] at hP | rw [if_pos (Decidable.not_not.1 h13_0)] at hP | skip
            as_aux_lemma =>
              refine SPL_y (y_assign rfl) rfl ?_
              refine SPL_nil ?_
              refine thenP_n ?_
              refine SP_cond_f rfl ?_
              refine SP_seq ?_
              refine SP_region ?_
              refine SPL_if (y_eql rfl rfl) rfl ?_ ?_
              · intro h15_0
                first | rw [if_pos h15_0] at hP | rw [if_neg h15_0] at hP | skip
                as_aux_lemma =>
                  refine SPL_y (y_assign rfl) rfl ?_
                  refine SPL_nil ?_
                  refine thenP_n ?_
                  refine SP_cond_t rfl ?_
                  refine SP_seq ?_
                  unfold pGetU at hP
                  refine SP_region ?_
                  refine SPL_y (y_move rfl) rfl ?_
                  refine SPL_y (y_move rfl) rfl ?_
                  refine SPL_y (y_move rfl) rfl ?_
                  obtain ⟨v16, hq16, hP⟩ := bnd1 hP
                  refine SPL_one rfl (SP1_call (vm_getUp b ph hh hfv0 hq16 _ hM) Tryz.call290 rfl rfl (by repeat (first | exact Part.nil _ | (apply Part.cons; with_reducible (first | exact P0 | exact P1 | exact P2 | exact P3 | exact P4 | exact P5 | exact P6 | exact P7 | exact P8 | exact P9 | exact P10 | exact P11 | exact P12 | exact P13 | exact P14 | exact P15 | exact P16 | exact P17 | exact P18 | exact P19 | exact P20 | exact P21 | exact P22 | exact P23)) | (apply Part.flat; simp only [List.cons_append, List.nil_append]) | (apply Part.cons; (first | exact P0 | exact P1 | exact P2 | exact P3 | exact P4 | exact P5 | exact P6 | exact P7 | exact P8 | exact P9 | exact P10 | exact P11 | exact P12 | exact P13 | exact P14 | exact P15 | exact P16 | exact P17 | exact P18 | exact P19 | exact P20 | exact P21 | exact P22 | exact P23)) | (apply Part.nilc))) ?_)
                  rintro v post H' ⟨rfl, rfl⟩ hH
                  try simp only [List.cons_append, List.nil_append] at hH
                  subst hH
                  refine SPL_one rfl (SP1_alloc Tryz.zeroValue42 rfl rfl ?_)
                  intro b15
                  refine SPL_one rfl (SP1_storeAll Tryz.sizeOf42 rfl rfl rfl rfl rfl (by first | exact U0 | exact U1 | exact U2 | exact U3 | exact U4 | exact U5 | exact U6 | exact U7 | exact U8 | exact U9 | exact U10 | exact U11 | exact U12 | exact U13 | exact U14 | exact U15 | exact U16 | exact U17 | exact U18 | exact U19 | exact U20 | exact U21 | exact U22 | exact U23) (by rfl) ?_)
                  refine SPL_nil ?_
                  refine thenP_n ?_
                  refine SP_region ?_
                  refine SPL_y (y_move rfl) rfl ?_
                  refine SPL_y (y_loads Tryz.isAgg42 Tryz.sizeOf42 rfl rfl (by repeat (first | exact Cells.all _ | exact Cells.amid hpre rfl (by decide) | exact Cells.head rfl | apply Cells.tail))) rfl ?_
                  refine SPL_one rfl (SP1_slice1 el_90 rfl rfl rfl rfl rfl ?_)
                  intro b118
                  unfold okU at hP
                  obtain ⟨mp, hpu, hP⟩ := bnd1 hP
                  refine SPL_one rfl (SP1_call (vm_push b ph _ _ hpu _ hM) Tryz.call142 rfl rfl (by repeat (first | exact Part.nil _ | (apply Part.cons; with_reducible (first | exact P0 | exact P1 | exact P2 | exact P3 | exact P4 | exact P5 | exact P6 | exact P7 | exact P8 | exact P9 | exact P10 | exact P11 | exact P12 | exact P13 | exact P14 | exact P15 | exact P16 | exact P17 | exact P18 | exact P19 | exact P20 | exact P21 | exact P22 | exact P23)) | (apply Part.flat; simp only [List.cons_append, List.nil_append]) | (apply Part.cons; (first | exact P0 | exact P1 | exact P2 | exact P3 | exact P4 | exact P5 | exact P6 | exact P7 | exact P8 | exact P9 | exact P10 | exact P11 | exact P12 | exact P13 | exact P14 | exact P15 | exact P16 | exact P17 | exact P18 | exact P19 | exact P20 | exact P21 | exact P22 | exact P23)) | (apply Part.nilc))) ?_)
                  rintro v post H' ⟨rfl, hhp, sgp, hkp, hM, rfl⟩ hH
                  try simp only [List.cons_append, List.nil_append] at hH
                  subst hH
                  replace hk := hk.trans hkp
                  refine SPL_nil ?_
                  refine inBlockP_n ?_
                  refine bodyP_end (H' := [sgp]) (Res0 rfl) (by repeat (first | exact Part.nil _ | (apply Part.cons; with_reducible (first | exact P0 | exact P1 | exact P2 | exact P3 | exact P4 | exact P5 | exact P6 | exact P7 | exact P8 | exact P9 | exact P10 | exact P11 | exact P12 | exact P13 | exact P14 | exact P15 | exact P16 | exact P17 | exact P18 | exact P19 | exact P20 | exact P21 | exact P22 | exact P23)) | (apply Part.flat; simp only [List.cons_append, List.nil_append]) | (apply Part.cons; (first | exact P0 | exact P1 | exact P2 | exact P3 | exact P4 | exact P5 | exact P6 | exact P7 | exact P8 | exact P9 | exact P10 | exact P11 | exact P12 | exact P13 | exact P14 | exact P15 | exact P16 | exact P17 | exact P18 | exact P19 | exact P20 | exact P21 | exact P22 | exact P23)) | (apply Part.nilc))) ?_
                  injection hP with hP
                  subst hP
                  exact ⟨(), _, rfl, rfl, _, _, hk, hM, rfl⟩
              intro h15_0
              first | rw [if_neg h15_0] at hP | rw [if_pos (Decidable.not_not.1 h15_0)] at hP | skip
              as_aux_lemma =>
                refine SPL_y (y_assign rfl) rfl ?_
                refine SPL_nil ?_
                refine thenP_n ?_
                refine SP_cond_f rfl ?_
                refine SP_seq ?_
                refine SP_region ?_
                refine SPL_if (y_eql rfl rfl) rfl ?_ ?_
                · intro h18_0
                  first | rw [if_pos h18_0] at hP | rw [if_neg h18_0] at hP | skip
                  as_aux_lemma =>
                    refine SPL_y (y_assign rfl) rfl ?_
                    refine SPL_nil ?_
                    refine thenP_n ?_
                    refine SP_cond_t rfl ?_
                    refine SP_seq ?_
                    unfold pSetU at hP
                    refine SP_region ?_
                    refine SPL_y (y_move rfl) rfl ?_
                    obtain ⟨v19, m19, hq19, hP⟩ := bnd2 hP
                    refine SPL_one rfl (SP1_call (vm_pop b ph _ hq19 _ hM) Tryz.call264 rfl rfl (by repeat (first | exact Part.nil _ | (apply Part.cons; with_reducible (first | exact P0 | exact P1 | exact P2 | exact P3 | exact P4 | exact P5 | exact P6 | exact P7 | exact P8 | exact P9 | exact P10 | exact P11 | exact P12 | exact P13 | exact P14 | exact P15 | exact P16 | exact P17 | exact P18 | exact P19 | exact P20 | exact P21 | exact P22 | exact P23)) | (apply Part.flat; simp only [List.cons_append, List.nil_append]) | (apply Part.cons; (first | exact P0 | exact P1 | exact P2 | exact P3 | exact P4 | exact P5 | exact P6 | exact P7 | exact P8 | exact P9 | exact P10 | exact P11 | exact P12 | exact P13 | exact P14 | exact P15 | exact P16 | exact P17 | exact P18 | exact P19 | exact P20 | exact P21 | exact P22 | exact P23)) | (apply Part.nilc))) ?_)
                    rintro v post H' ⟨rfl, sg19, hM, rfl⟩ hH
                    try simp only [List.cons_append, List.nil_append] at hH
                    subst hH
                    refine SPL_one rfl (SP1_alloc Tryz.zeroValue42 rfl rfl ?_)
                    intro b16
                    refine SPL_one rfl (SP1_storeAll Tryz.sizeOf42 rfl rfl rfl rfl rfl (by first | exact U0 | exact U1 | exact U2 | exact U3 | exact U4 | exact U5 | exact U6 | exact U7 | exact U8 | exact U9 | exact U10 | exact U11 | exact U12 | exact U13 | exact U14 | exact U15 | exact U16 | exact U17 | exact U18 | exact U19 | exact U20 | exact U21 | exact U22 | exact U23) (by rfl) ?_)
                    refine SPL_nil ?_
                    refine thenP_n ?_
                    refine SP_region ?_
                    refine SPL_y (y_move rfl) rfl ?_
                    refine SPL_y (y_move rfl) rfl ?_
                    refine SPL_y (y_move rfl) rfl ?_
                    refine SPL_y (y_loads Tryz.isAgg42 Tryz.sizeOf42 rfl rfl (by repeat (first | exact Cells.all _ | exact Cells.amid hpre rfl (by decide) | exact Cells.head rfl | apply Cells.tail))) rfl ?_
                    unfold okU at hP
                    obtain ⟨m20, hq20, hP⟩ := bnd1 hP
                    refine SPL_one rfl (SP1_call (vm_setUp b ph hh hfv0 hq20 _ hM) Tryz.call291 rfl rfl (by repeat (first | exact Part.nil _ | (apply Part.cons; with_reducible (first | exact P0 | exact P1 | exact P2 | exact P3 | exact P4 | exact P5 | exact P6 | exact P7 | exact P8 | exact P9 | exact P10 | exact P11 | exact P12 | exact P13 | exact P14 | exact P15 | exact P16 | exact P17 | exact P18 | exact P19 | exact P20 | exact P21 | exact P22 | exact P23)) | (apply Part.flat; simp only [List.cons_append, List.nil_append]) | (apply Part.cons; (first | exact P0 | exact P1 | exact P2 | exact P3 | exact P4 | exact P5 | exact P6 | exact P7 | exact P8 | exact P9 | exact P10 | exact P11 | exact P12 | exact P13 | exact P14 | exact P15 | exact P16 | exact P17 | exact P18 | exact P19 | exact P20 | exact P21 | exact P22 | exact P23)) | (apply Part.nilc))) ?_)
                    rintro v post H' ⟨rfl, sgp, hM, rfl⟩ hH
                    try simp only [List.cons_append, List.nil_append] at hH
                    subst hH
                    refine SPL_nil ?_
                    refine inBlockP_n ?_
                    refine bodyP_end (H' := [sgp]) (Res0 rfl) (by repeat (first | exact Part.nil _ | (apply Part.cons; with_reducible (first | exact P0 | exact P1 | exact P2 | exact P3 | exact P4 | exact P5 | exact P6 | exact P7 | exact P8 | exact P9 | exact P10 | exact P11 | exact P12 | exact P13 | exact P14 | exact P15 | exact P16 | exact P17 | exact P18 | exact P19 | exact P20 | exact P21 | exact P22 | exact P23)) | (apply Part.flat; simp only [List.cons_append, List.nil_append]) | (apply Part.cons; (first | exact P0 | exact P1 | exact P2 | exact P3 | exact P4 | exact P5 | exact P6 | exact P7 | exact P8 | exact P9 | exact P10 | exact P11 | exact P12 | exact P13 | exact P14 | exact P15 | exact P16 | exact P17 | exact P18 | exact P19 | exact P20 | exact P21 | exact P22 | exact P23)) | (apply Part.nilc))) ?_
                    injection hP with hP
                    subst hP
                    exact ⟨(), _, rfl, rfl, _, _, hk, hM, rfl⟩
                intro h18_0
                first | rw [if_neg h18_0] at hP | rw [if_pos (Decidable.not_not.1 h18_0)] at hP | skip
                as_aux_lemma =>
                  refine SPL_y (y_assign rfl) rfl ?_
                  refine SPL_nil ?_
                  refine thenP_n ?_
                  refine SP_cond_f rfl ?_
                  refine SP_seq ?_
                  refine SP_region ?_
                  refine SPL_if (y_eql rfl rfl) rfl ?_ ?_
                  · intro h21_0
                    first | rw [if_pos h21_0] at hP | rw [if_neg h21_0] at hP | skip
                    as_aux_lemma =>
                      refine SPL_y (y_assign rfl) rfl ?_
                      refine SPL_nil ?_
                      refine thenP_n ?_
                      refine SP_cond_t rfl ?_
                      refine SP_seq ?_
                      unfold pGetG at hP
                      obtain ⟨kc, hkc0, hP⟩ := bnd1 hP
                      obtain ⟨hkr, hkg⟩ := constM_at hkc0
                      obtain ⟨hkb, hkl0, _, _, _⟩ := getI_some hkg
                      obtain ⟨kq, hka, hkq⟩ := hM.const hkg
                      have hkh : ∀ H : Hp, Cell (seg :: H) b.vb (0 + 4) (.slice (some ⟨kq, 0, none⟩) m.pg.consts.length ph.kc) := fun H => by have := hM.consts (H := H); rw [hka] at this; exact this
                      obtain ⟨vg, htg, hP⟩ := bnd1 hP
                      obtain ⟨jg, hjg, hjl, hkn, eg, hgm⟩ := tget_some htg
                      obtain rfl : jg = 0 := by omega
                      have htc : ∀ H : Hp, Cell (seg :: H) b.vb (0 + 1) (pt b.tb) := fun H => hM.tabs
                      obtain ⟨r, stb, r2, hseg, htb, hputB⟩ := hM.opnB
                      subst hseg
                      have htc2 : ∀ H : Hp, Cell (r :: stb :: r2 :: H) b.vb (0 + 1) (pt b.tb) := fun H => Cell.opened (pre := [r, stb, r2]) (htc [])
                      have hkh2 : ∀ H : Hp, Cell (r :: stb :: r2 :: H) b.vb (0 + 4) (.slice (some ⟨kq, 0, none⟩) m.pg.consts.length ph.kc) := fun H => Cell.opened (pre := [r, stb, r2]) (hkh [])
                      have hpq2 : ∀ H : Hp, Cells (r :: stb :: r2 :: H) pq (0 + j * 8) (prV p) := fun H => Cells.opened (pre := [r, stb, r2]) (hpq [])
                      have hkq2 : ∀ H : Hp, Cells (r :: stb :: r2 :: H) kq (0 + (p.k + x).toNat * 3) (valV kc) := fun H => Cells.opened (pre := [r, stb, r2]) (hkq [])
                      refine SP_openAt [r, stb, r2] (by first | exact P0 | exact P1 | exact P2 | exact P3 | exact P4 | exact P5 | exact P6 | exact P7 | exact P8 | exact P9 | exact P10 | exact P11 | exact P12 | exact P13 | exact P14 | exact P15 | exact P16 | exact P17 | exact P18 | exact P19 | exact P20 | exact P21 | exact P22 | exact P23) ?_
                      simp only [List.cons_append, List.nil_append]
                      refine SP_drawG 16 mixed (Part.refl _) ?_
                      refine SPG_pre (fuel' := 7) [(0, 0), (1, 0), (2, 0), (4, 0), (5, 0), (6, 0), (8, 0), (9, 0), (10, 0), (12, 0), (3, 1), (7, 1), (11, 1), (13, 0), (14, 0), (15, 1)] (by kernel_rfl) (fun _ _ _ _ _ h => h) ?_
                      refine SPP_p rfl (y_move rfl) rfl ?_
                      refine SPP_p rfl (y_nil rfl) rfl ?_
                      refine SPP_p rfl (y_fa fld_115_1 rfl) rfl ?_
                      refine SPP_p rfl (y_move rfl) rfl ?_
                      refine SPP_p rfl (y_nil rfl) rfl ?_
                      refine SPP_p rfl (y_fa fld_115_4 rfl) rfl ?_
                      refine SPP_p rfl (y_move rfl) rfl ?_
                      refine SPP_p rfl (y_nil rfl) rfl ?_
                      refine SPP_p rfl (y_fa fld_252_4 rfl) rfl ?_
                      refine SPP_p rfl (y_move rfl) rfl ?_
                      refine SPP_h rfl (y_load Tryz.isAgg54 rfl (by repeat (first | exact (htc2 _) | apply Cell.tail))) rfl ?_
                      refine SPP_h rfl (y_load Tryz.isAgg90 rfl (by repeat (first | exact (hkh2 _) | apply Cell.tail))) rfl ?_
                      refine SPP_h rfl (y_load Tryz.isAgg3 rfl (by repeat (first | exact ((hpq2 _).cell rfl) | apply Cell.tail))) rfl ?_
                      refine SPP_p rfl (y_add rfl rfl (by omega)) rfl ?_
                      refine SPP_p rfl (y_ia Tryz.underlying90 Tryz.sizeOf42 rfl rfl (by omega)) rfl ?_
                      refine SPP_h rfl (y_loads Tryz.isAgg42 Tryz.sizeOf42 rfl rfl (by repeat (first | exact (hkq2 _) | apply Cells.tail))) rfl ?_
                      refine SPP_nil ?_
                      refine SPG_two (i := 16) (j := 20) (by kernel_rfl) rfl rfl rfl rfl ?_ ?_
                      · refine SP1_call (tabs_Get b.tb b.nb m.vs.tabs stb htb (by omega) 0 (by omega) kc (by omega) vg eg hgm) Tryz.call292 rfl rfl (by repeat (first | exact Part.nil _ | (apply Part.cons; with_reducible (first | exact P0 | exact P1 | exact P2 | exact P3 | exact P4 | exact P5 | exact P6 | exact P7 | exact P8 | exact P9 | exact P10 | exact P11 | exact P12 | exact P13 | exact P14 | exact P15 | exact P16 | exact P17 | exact P18 | exact P19 | exact P20 | exact P21 | exact P22 | exact P23)) | (apply Part.flat; simp only [List.cons_append, List.nil_append]) | (apply Part.cons; (first | exact P0 | exact P1 | exact P2 | exact P3 | exact P4 | exact P5 | exact P6 | exact P7 | exact P8 | exact P9 | exact P10 | exact P11 | exact P12 | exact P13 | exact P14 | exact P15 | exact P16 | exact P17 | exact P18 | exact P19 | exact P20 | exact P21 | exact P22 | exact P23)) | (apply Part.nilc))) ?_
                        rintro v post H' ⟨rfl, stb1, htb1, rfl⟩ hH
                        try simp only [List.cons_append, List.nil_append] at hH
                        subst hH
                        refine ⟨fun h => absurd rfl h, ?_⟩
                        have hM := hputB m.vs.tabs stb1 htb1
                        refine SPG_ord [(17, 0), (18, 0), (19, 0), (20, 3), (21, 3), (22, 0)] (by kernel_rfl) (fun _ _ _ _ _ h => h) ?_
                        refine SPO_p rfl (y_move rfl) rfl ?_
                        refine SPO_p rfl (y_ext rfl rfl) rfl ?_
                        refine SPO_p rfl (y_ext rfl rfl) rfl ?_
                        refine SPO_z (k := 0) rfl rfl (SP1_alloc Tryz.zeroValue42 rfl rfl ?_)
                        intro b17
                        refine SPO_z (k := 0) rfl rfl (SP1_storeAll Tryz.sizeOf42 rfl rfl rfl rfl rfl (by first | exact U0 | exact U1 | exact U2 | exact U3 | exact U4 | exact U5 | exact U6 | exact U7 | exact U8 | exact U9 | exact U10 | exact U11 | exact U12 | exact U13 | exact U14 | exact U15 | exact U16 | exact U17 | exact U18 | exact U19 | exact U20 | exact U21 | exact U22 | exact U23) (by rfl) ?_)
                        refine SPO_p rfl (y_assign rfl) rfl ?_
                        refine SPO_nil ?_
                        refine thenP_n ?_
                        refine SP_part (H' := [List.flatten [r, stb1, r2], blk b17 42 (valV vg)]) (by repeat (first | exact Part.nil _ | (apply Part.cons; with_reducible (first | exact P0 | exact P1 | exact P2 | exact P3 | exact P4 | exact P5 | exact P6 | exact P7 | exact P8 | exact P9 | exact P10 | exact P11 | exact P12 | exact P13 | exact P14 | exact P15 | exact P16 | exact P17 | exact P18 | exact P19 | exact P20 | exact P21 | exact P22 | exact P23)) | (apply Part.flat; simp only [List.cons_append, List.nil_append]) | (apply Part.cons; (first | exact P0 | exact P1 | exact P2 | exact P3 | exact P4 | exact P5 | exact P6 | exact P7 | exact P8 | exact P9 | exact P10 | exact P11 | exact P12 | exact P13 | exact P14 | exact P15 | exact P16 | exact P17 | exact P18 | exact P19 | exact P20 | exact P21 | exact P22 | exact P23)) | (apply Part.nilc))) ?_
                        refine SP_region ?_
                        refine SPL_y (y_move rfl) rfl ?_
                        refine SPL_y (y_loads Tryz.isAgg42 Tryz.sizeOf42 rfl rfl (by repeat (first | exact Cells.all _ | exact Cells.amid hpre rfl (by decide) | exact Cells.head rfl | apply Cells.tail))) rfl ?_
                        refine SPL_one rfl (SP1_slice1 el_90 rfl rfl rfl rfl rfl ?_)
                        intro b153
                        unfold okU at hP
                        obtain ⟨mp, hpu, hP⟩ := bnd1 hP
                        refine SPL_one rfl (SP1_call (vm_push b ph _ _ hpu _ hM) Tryz.call142 rfl rfl (by repeat (first | exact Part.nil _ | (apply Part.cons; with_reducible (first | exact P0 | exact P1 | exact P2 | exact P3 | exact P4 | exact P5 | exact P6 | exact P7 | exact P8 | exact P9 | exact P10 | exact P11 | exact P12 | exact P13 | exact P14 | exact P15 | exact P16 | exact P17 | exact P18 | exact P19 | exact P20 | exact P21 | exact P22 | exact P23)) | (apply Part.flat; simp only [List.cons_append, List.nil_append]) | (apply Part.cons; (first | exact P0 | exact P1 | exact P2 | exact P3 | exact P4 | exact P5 | exact P6 | exact P7 | exact P8 | exact P9 | exact P10 | exact P11 | exact P12 | exact P13 | exact P14 | exact P15 | exact P16 | exact P17 | exact P18 | exact P19 | exact P20 | exact P21 | exact P22 | exact P23)) | (apply Part.nilc))) ?_)
                        rintro v post H' ⟨rfl, hhp, sgp, hkp, hM, rfl⟩ hH
                        try simp only [List.cons_append, List.nil_append] at hH
                        subst hH
                        replace hk := hk.trans hkp
                        refine SPL_nil ?_
                        refine inBlockP_n ?_
                        refine bodyP_end (H' := [sgp]) (Res0 rfl) (by repeat (first | exact Part.nil _ | (apply Part.cons; with_reducible (first | exact P0 | exact P1 | exact P2 | exact P3 | exact P4 | exact P5 | exact P6 | exact P7 | exact P8 | exact P9 | exact P10 | exact P11 | exact P12 | exact P13 | exact P14 | exact P15 | exact P16 | exact P17 | exact P18 | exact P19 | exact P20 | exact P21 | exact P22 | exact P23)) | (apply Part.flat; simp only [List.cons_append, List.nil_append]) | (apply Part.cons; (first | exact P0 | exact P1 | exact P2 | exact P3 | exact P4 | exact P5 | exact P6 | exact P7 | exact P8 | exact P9 | exact P10 | exact P11 | exact P12 | exact P13 | exact P14 | exact P15 | exact P16 | exact P17 | exact P18 | exact P19 | exact P20 | exact P21 | exact P22 | exact P23)) | (apply Part.nilc))) ?_
                        injection hP with hP
                        subst hP
                        exact ⟨(), _, rfl, rfl, _, _, hk, hM, rfl⟩
                      refine SP1_alloc Tryz.zeroValue42 rfl rfl ?_
                      intro b17
                      refine ⟨fun _ => ⟨_, (by repeat (first | exact Part.nil _ | (apply Part.cons; with_reducible (first | exact P0 | exact P1 | exact P2 | exact P3 | exact P4 | exact P5 | exact P6 | exact P7 | exact P8 | exact P9 | exact P10 | exact P11 | exact P12 | exact P13 | exact P14 | exact P15 | exact P16 | exact P17 | exact P18 | exact P19 | exact P20 | exact P21 | exact P22 | exact P23)) | (apply Part.flat; simp only [List.cons_append, List.nil_append]) | (apply Part.cons; (first | exact P0 | exact P1 | exact P2 | exact P3 | exact P4 | exact P5 | exact P6 | exact P7 | exact P8 | exact P9 | exact P10 | exact P11 | exact P12 | exact P13 | exact P14 | exact P15 | exact P16 | exact P17 | exact P18 | exact P19 | exact P20 | exact P21 | exact P22 | exact P23)) | (apply Part.nilc)))⟩, ?_⟩
                      refine SPG_ord [(16, 3), (17, 0), (18, 0), (19, 0), (21, 3), (22, 0)] (by kernel_rfl) (fun _ _ _ _ _ h => h) ?_
                      refine SPO_z (k := 0) rfl rfl (SP1_call (tabs_Get b.tb b.nb m.vs.tabs stb htb (by omega) 0 (by omega) kc (by omega) vg eg hgm) Tryz.call292 rfl rfl (by repeat (first | exact Part.nil _ | (apply Part.cons; with_reducible (first | exact P0 | exact P1 | exact P2 | exact P3 | exact P4 | exact P5 | exact P6 | exact P7 | exact P8 | exact P9 | exact P10 | exact P11 | exact P12 | exact P13 | exact P14 | exact P15 | exact P16 | exact P17 | exact P18 | exact P19 | exact P20 | exact P21 | exact P22 | exact P23)) | (apply Part.flat; simp only [List.cons_append, List.nil_append]) | (apply Part.cons; (first | exact P0 | exact P1 | exact P2 | exact P3 | exact P4 | exact P5 | exact P6 | exact P7 | exact P8 | exact P9 | exact P10 | exact P11 | exact P12 | exact P13 | exact P14 | exact P15 | exact P16 | exact P17 | exact P18 | exact P19 | exact P20 | exact P21 | exact P22 | exact P23)) | (apply Part.nilc))) ?_)
                      rintro v post H' ⟨rfl, stb1, htb1, rfl⟩ hH
                      try simp only [List.cons_append, List.nil_append] at hH
                      subst hH
                      have hM := hputB m.vs.tabs stb1 htb1
                      refine SPO_p rfl (y_move rfl) rfl ?_
                      refine SPO_p rfl (y_ext rfl rfl) rfl ?_
                      refine SPO_p rfl (y_ext rfl rfl) rfl ?_
                      refine SPO_z (k := 0) rfl rfl (SP1_storeAll Tryz.sizeOf42 rfl rfl rfl rfl rfl (by first | exact U0 | exact U1 | exact U2 | exact U3 | exact U4 | exact U5 | exact U6 | exact U7 | exact U8 | exact U9 | exact U10 | exact U11 | exact U12 | exact U13 | exact U14 | exact U15 | exact U16 | exact U17 | exact U18 | exact U19 | exact U20 | exact U21 | exact U22 | exact U23) (by rfl) ?_)
                      refine SPO_p rfl (y_assign rfl) rfl ?_
                      refine SPO_nil ?_
                      refine thenP_n ?_
                      refine SP_part (H' := [List.flatten [r, stb1, r2], blk b17 42 (valV vg)]) (by repeat (first | exact Part.nil _ | (apply Part.cons; with_reducible (first | exact P0 | exact P1 | exact P2 | exact P3 | exact P4 | exact P5 | exact P6 | exact P7 | exact P8 | exact P9 | exact P10 | exact P11 | exact P12 | exact P13 | exact P14 | exact P15 | exact P16 | exact P17 | exact P18 | exact P19 | exact P20 | exact P21 | exact P22 | exact P23)) | (apply Part.flat; simp only [List.cons_append, List.nil_append]) | (apply Part.cons; (first | exact P0 | exact P1 | exact P2 | exact P3 | exact P4 | exact P5 | exact P6 | exact P7 | exact P8 | exact P9 | exact P10 | exact P11 | exact P12 | exact P13 | exact P14 | exact P15 | exact P16 | exact P17 | exact P18 | exact P19 | exact P20 | exact P21 | exact P22 | exact P23)) | (apply Part.nilc))) ?_
                      refine SP_region ?_
                      refine SPL_y (y_move rfl) rfl ?_
                      refine SPL_y (y_loads Tryz.isAgg42 Tryz.sizeOf42 rfl rfl (by repeat (first | exact Cells.all _ | exact Cells.amid hpre rfl (by decide) | exact Cells.head rfl | apply Cells.tail))) rfl ?_
                      refine SPL_one rfl (SP1_slice1 el_90 rfl rfl rfl rfl rfl ?_)
                      intro b153
                      unfold okU at hP
                      obtain ⟨mp, hpu, hP⟩ := bnd1 hP
                      refine SPL_one rfl (SP1_call (vm_push b ph _ _ hpu _ hM) Tryz.call142 rfl rfl (by repeat (first | exact Part.nil _ | (apply Part.cons; with_reducible (first | exact P0 | exact P1 | exact P2 | exact P3 | exact P4 | exact P5 | exact P6 | exact P7 | exact P8 | exact P9 | exact P10 | exact P11 | exact P12 | exact P13 | exact P14 | exact P15 | exact P16 | exact P17 | exact P18 | exact P19 | exact P20 | exact P21 | exact P22 | exact P23)) | (apply Part.flat; simp only [List.cons_append, List.nil_append]) | (apply Part.cons; (first | exact P0 | exact P1 | exact P2 | exact P3 | exact P4 | exact P5 | exact P6 | exact P7 | exact P8 | exact P9 | exact P10 | exact P11 | exact P12 | exact P13 | exact P14 | exact P15 | exact P16 | exact P17 | exact P18 | exact P19 | exact P20 | exact P21 | exact P22 | exact P23)) | (apply Part.nilc))) ?_)
                      rintro v post H' ⟨rfl, hhp, sgp, hkp, hM, rfl⟩ hH
                      try simp only [List.cons_append, List.nil_append] at hH
                      subst hH
                      replace hk := hk.trans hkp
                      refine SPL_nil ?_
                      refine inBlockP_n ?_
                      refine bodyP_end (H' := [sgp]) (Res0 rfl) (by repeat (first | exact Part.nil _ | (apply Part.cons; with_reducible (first | exact P0 | exact P1 | exact P2 | exact P3 | exact P4 | exact P5 | exact P6 | exact P7 | exact P8 | exact P9 | exact P10 | exact P11 | exact P12 | exact P13 | exact P14 | exact P15 | exact P16 | exact P17 | exact P18 | exact P19 | exact P20 | exact P21 | exact P22 | exact P23)) | (apply Part.flat; simp only [List.cons_append, List.nil_append]) | (apply Part.cons; (first | exact P0 | exact P1 | exact P2 | exact P3 | exact P4 | exact P5 | exact P6 | exact P7 | exact P8 | exact P9 | exact P10 | exact P11 | exact P12 | exact P13 | exact P14 | exact P15 | exact P16 | exact P17 | exact P18 | exact P19 | exact P20 | exact P21 | exact P22 | exact P23)) | (apply Part.nilc))) ?_
                      injection hP with hP
                      subst hP
                      exact ⟨(), _, rfl, rfl, _, _, hk, hM, rfl⟩
                  intro h21_0
                  first | rw [if_neg h21_0] at hP | rw [if_pos (Decidable.not_not.1 h21_0)] at hP | skip
                  as_aux_lemma =>
                    refine SPL_y (y_assign rfl) rfl ?_
                    refine SPL_nil ?_
                    refine thenP_n ?_
                    refine SP_cond_f rfl ?_
                    refine SP_seq ?_
                    refine SP_region ?_
                    refine SPL_if (y_eql rfl rfl) rfl ?_ ?_
                    · intro h24_0
                      first | rw [if_pos h24_0] at hP | rw [if_neg h24_0] at hP | skip
                      as_aux_lemma =>
                        refine SPL_y (y_assign rfl) rfl ?_
                        refine SPL_nil ?_
                        refine thenP_n ?_
                        refine SP_cond_t rfl ?_
                        refine SP_seq ?_
                        unfold pSetG at hP
                        refine SP_region ?_
                        refine SPL_y (y_move rfl) rfl ?_
                        obtain ⟨v25, m25, hq25, hP⟩ := bnd2 hP
                        refine SPL_one rfl (SP1_call (vm_pop b ph _ hq25 _ hM) Tryz.call264 rfl rfl (by repeat (first | exact Part.nil _ | (apply Part.cons; with_reducible (first | exact P0 | exact P1 | exact P2 | exact P3 | exact P4 | exact P5 | exact P6 | exact P7 | exact P8 | exact P9 | exact P10 | exact P11 | exact P12 | exact P13 | exact P14 | exact P15 | exact P16 | exact P17 | exact P18 | exact P19 | exact P20 | exact P21 | exact P22 | exact P23)) | (apply Part.flat; simp only [List.cons_append, List.nil_append]) | (apply Part.cons; (first | exact P0 | exact P1 | exact P2 | exact P3 | exact P4 | exact P5 | exact P6 | exact P7 | exact P8 | exact P9 | exact P10 | exact P11 | exact P12 | exact P13 | exact P14 | exact P15 | exact P16 | exact P17 | exact P18 | exact P19 | exact P20 | exact P21 | exact P22 | exact P23)) | (apply Part.nilc))) ?_)
                        rintro v post H' ⟨rfl, sg25, hM, rfl⟩ hH
                        try simp only [List.cons_append, List.nil_append] at hH
                        subst hH
                        refine SPL_one rfl (SP1_alloc Tryz.zeroValue42 rfl rfl ?_)
                        intro b19
                        refine SPL_one rfl (SP1_storeAll Tryz.sizeOf42 rfl rfl rfl rfl rfl (by first | exact U0 | exact U1 | exact U2 | exact U3 | exact U4 | exact U5 | exact U6 | exact U7 | exact U8 | exact U9 | exact U10 | exact U11 | exact U12 | exact U13 | exact U14 | exact U15 | exact U16 | exact U17 | exact U18 | exact U19 | exact U20 | exact U21 | exact U22 | exact U23) (by rfl) ?_)
                        refine SPL_nil ?_
                        refine thenP_n ?_
                        have hpg := popM_pg hq25
                        obtain ⟨kc, hkc0, hP⟩ := bnd1 hP
                        obtain ⟨hkr, hkg⟩ := constM_at hkc0
                        obtain ⟨hkb, hkl0, _, _, _⟩ := getI_some hkg
                        obtain ⟨kq, hka, hkq⟩ := hM.const hkg
                        have hkh : ∀ H : Hp, Cell (sg25 :: H) b.vb (0 + 4) (.slice (some ⟨kq, 0, none⟩) m25.pg.consts.length ph.kc) := fun H => by have := hM.consts (H := H); rw [hka] at this; exact this
                        obtain ⟨pq2, hpe, hpq2⟩ := pr_at hM (hpg ▸ hpj) hjb hpv
                        injection hpe with hpe
                        injection hpe with hpe
                        injection hpe with hpe hpe2
                        subst hpe
                        refine SP_draw 14 [(0, 0), (1, 0), (2, 0), (3, 0), (5, 0), (6, 0), (7, 0), (9, 0), (4, 1), (8, 1), (10, 0), (11, 0), (12, 1), (13, 1), (14, 3)] mixed (by kernel_rfl) (fun _ _ _ _ _ h => h) (Part.refl _) ?_
                        refine SPO_p rfl (y_move rfl) rfl ?_
                        refine SPO_p rfl (y_move rfl) rfl ?_
                        refine SPO_p rfl (y_nil rfl) rfl ?_
                        refine SPO_p rfl (y_fa fld_115_4 rfl) rfl ?_
                        refine SPO_p rfl (y_move rfl) rfl ?_
                        refine SPO_p rfl (y_nil rfl) rfl ?_
                        refine SPO_p rfl (y_fa fld_252_4 rfl) rfl ?_
                        refine SPO_p rfl (y_move rfl) rfl ?_
                        refine SPO_h rfl (y_load Tryz.isAgg90 rfl (by repeat (first | exact (hkh _) | apply Cell.tail))) rfl ?_
                        refine SPO_h rfl (y_load Tryz.isAgg3 rfl (by repeat (first | exact ((hpq2 _).cell rfl) | apply Cell.tail))) rfl ?_
                        refine SPO_p rfl (y_add rfl rfl (by omega)) rfl ?_
                        refine SPO_p rfl (y_ia Tryz.underlying90 Tryz.sizeOf42 rfl rfl (by omega)) rfl ?_
                        refine SPO_h rfl (y_loads Tryz.isAgg42 Tryz.sizeOf42 rfl rfl (by repeat (first | exact (hkq _) | apply Cells.tail))) rfl ?_
                        refine SPO_h rfl (y_loads Tryz.isAgg42 Tryz.sizeOf42 rfl rfl (by repeat (first | exact Cells.all _ | exact Cells.amid hpre rfl (by decide) | exact Cells.head rfl | apply Cells.tail))) rfl ?_
                        refine SPO_z (k := 0) rfl rfl (SP1_callp (vm_store b ph _ hP _ hM) Tryz.call293 rfl rfl (by repeat (first | exact Part.nil _ | (apply Part.cons; with_reducible (first | exact P0 | exact P1 | exact P2 | exact P3 | exact P4 | exact P5 | exact P6 | exact P7 | exact P8 | exact P9 | exact P10 | exact P11 | exact P12 | exact P13 | exact P14 | exact P15 | exact P16 | exact P17 | exact P18 | exact P19 | exact P20 | exact P21 | exact P22 | exact P23)) | (apply Part.flat; simp only [List.cons_append, List.nil_append]) | (apply Part.cons; (first | exact P0 | exact P1 | exact P2 | exact P3 | exact P4 | exact P5 | exact P6 | exact P7 | exact P8 | exact P9 | exact P10 | exact P11 | exact P12 | exact P13 | exact P14 | exact P15 | exact P16 | exact P17 | exact P18 | exact P19 | exact P20 | exact P21 | exact P22 | exact P23)) | (apply Part.nilc))) ?_ ?_)
                        · rintro c post H' ⟨ex, hhx, sgx, rfl, rfl, hkx, hMx, rfl⟩ hH
                          try simp only [List.cons_append, List.nil_append] at hH
                          subst hH
                          refine inBlockP_panic (bodyP_panic (H' := [sgx, escS ex]) (by repeat (first | exact Part.nil _ | (apply Part.cons; with_reducible (first | exact P0 | exact P1 | exact P2 | exact P3 | exact P4 | exact P5 | exact P6 | exact P7 | exact P8 | exact P9 | exact P10 | exact P11 | exact P12 | exact P13 | exact P14 | exact P15 | exact P16 | exact P17 | exact P18 | exact P19 | exact P20 | exact P21 | exact P22 | exact P23)) | (apply Part.flat; simp only [List.cons_append, List.nil_append]) | (apply Part.cons; (first | exact P0 | exact P1 | exact P2 | exact P3 | exact P4 | exact P5 | exact P6 | exact P7 | exact P8 | exact P9 | exact P10 | exact P11 | exact P12 | exact P13 | exact P14 | exact P15 | exact P16 | exact P17 | exact P18 | exact P19 | exact P20 | exact P21 | exact P22 | exact P23)) | (apply Part.nilc))) ?_)
                          exact ⟨ex, hhx, sgx, rfl, rfl, hk.trans hkx, hMx, rfl⟩
                        rintro v post H' ⟨al, ml, rfl, rfl, hhl, sgp, hkl, hM, rfl⟩ hH
                        try simp only [List.cons_append, List.nil_append] at hH
                        subst hH
                        replace hk := hk.trans hkl
                        refine SPO_nil ?_
                        refine inBlockP_n ?_
                        refine bodyP_end (H' := [sgp]) (Res0 rfl) (by repeat (first | exact Part.nil _ | (apply Part.cons; with_reducible (first | exact P0 | exact P1 | exact P2 | exact P3 | exact P4 | exact P5 | exact P6 | exact P7 | exact P8 | exact P9 | exact P10 | exact P11 | exact P12 | exact P13 | exact P14 | exact P15 | exact P16 | exact P17 | exact P18 | exact P19 | exact P20 | exact P21 | exact P22 | exact P23)) | (apply Part.flat; simp only [List.cons_append, List.nil_append]) | (apply Part.cons; (first | exact P0 | exact P1 | exact P2 | exact P3 | exact P4 | exact P5 | exact P6 | exact P7 | exact P8 | exact P9 | exact P10 | exact P11 | exact P12 | exact P13 | exact P14 | exact P15 | exact P16 | exact P17 | exact P18 | exact P19 | exact P20 | exact P21 | exact P22 | exact P23)) | (apply Part.nilc))) ?_
                        exact ⟨al, _, rfl, rfl, _, _, hk, hM, rfl⟩
                    intro h24_0
                    first | rw [if_neg h24_0] at hP | rw [if_pos (Decidable.not_not.1 h24_0)] at hP | skip
                    as_aux_lemma =>
                      refine SPL_y (y_assign rfl) rfl ?_
                      refine SPL_nil ?_
                      refine thenP_n ?_
                      refine SP_cond_f rfl ?_
                      refine SP_seq ?_
                      refine SP_region ?_
                      refine SPL_if (y_eql rfl rfl) rfl ?_ ?_
                      · intro h27_0
                        first | rw [if_pos h27_0] at hP | rw [if_neg h27_0] at hP | skip
                        as_aux_lemma =>
                          refine SPL_y (y_assign rfl) rfl ?_
                          refine SPL_nil ?_
                          refine thenP_n ?_
                          refine SP_cond_t rfl ?_
                          refine SP_seq ?_
                          unfold pGetT at hP
                          refine SP_region ?_
                          refine SPL_y (y_move rfl) rfl ?_
                          obtain ⟨v28, m28, hq28, hP⟩ := bnd2 hP
                          refine SPL_one rfl (SP1_call (vm_pop b ph _ hq28 _ hM) Tryz.call264 rfl rfl (by repeat (first | exact Part.nil _ | (apply Part.cons; with_reducible (first | exact P0 | exact P1 | exact P2 | exact P3 | exact P4 | exact P5 | exact P6 | exact P7 | exact P8 | exact P9 | exact P10 | exact P11 | exact P12 | exact P13 | exact P14 | exact P15 | exact P16 | exact P17 | exact P18 | exact P19 | exact P20 | exact P21 | exact P22 | exact P23)) | (apply Part.flat; simp only [List.cons_append, List.nil_append]) | (apply Part.cons; (first | exact P0 | exact P1 | exact P2 | exact P3 | exact P4 | exact P5 | exact P6 | exact P7 | exact P8 | exact P9 | exact P10 | exact P11 | exact P12 | exact P13 | exact P14 | exact P15 | exact P16 | exact P17 | exact P18 | exact P19 | exact P20 | exact P21 | exact P22 | exact P23)) | (apply Part.nilc))) ?_)
                          rintro v post H' ⟨rfl, sg28, hM, rfl⟩ hH
                          try simp only [List.cons_append, List.nil_append] at hH
                          subst hH
                          refine SPL_one rfl (SP1_alloc Tryz.zeroValue42 rfl rfl ?_)
                          intro b20
                          refine SPL_one rfl (SP1_storeAll Tryz.sizeOf42 rfl rfl rfl rfl rfl (by first | exact U0 | exact U1 | exact U2 | exact U3 | exact U4 | exact U5 | exact U6 | exact U7 | exact U8 | exact U9 | exact U10 | exact U11 | exact U12 | exact U13 | exact U14 | exact U15 | exact U16 | exact U17 | exact U18 | exact U19 | exact U20 | exact U21 | exact U22 | exact U23) (by rfl) ?_)
                          refine SPL_nil ?_
                          refine thenP_n ?_
                          refine SP_seq ?_
                          refine SP_region ?_
                          refine SPL_y (y_move rfl) rfl ?_
                          obtain ⟨v29, m29, hq29, hP⟩ := bnd2 hP
                          refine SPL_one rfl (SP1_call (vm_pop b ph _ hq29 _ hM) Tryz.call264 rfl rfl (by repeat (first | exact Part.nil _ | (apply Part.cons; with_reducible (first | exact P0 | exact P1 | exact P2 | exact P3 | exact P4 | exact P5 | exact P6 | exact P7 | exact P8 | exact P9 | exact P10 | exact P11 | exact P12 | exact P13 | exact P14 | exact P15 | exact P16 | exact P17 | exact P18 | exact P19 | exact P20 | exact P21 | exact P22 | exact P23)) | (apply Part.flat; simp only [List.cons_append, List.nil_append]) | (apply Part.cons; (first | exact P0 | exact P1 | exact P2 | exact P3 | exact P4 | exact P5 | exact P6 | exact P7 | exact P8 | exact P9 | exact P10 | exact P11 | exact P12 | exact P13 | exact P14 | exact P15 | exact P16 | exact P17 | exact P18 | exact P19 | exact P20 | exact P21 | exact P22 | exact P23)) | (apply Part.nilc))) ?_)
                          rintro v post H' ⟨rfl, sg29, hM, rfl⟩ hH
                          try simp only [List.cons_append, List.nil_append] at hH
                          subst hH
                          refine SPL_one rfl (SP1_alloc Tryz.zeroValue42 rfl rfl ?_)
                          intro b21
                          refine SPL_one rfl (SP1_storeAll Tryz.sizeOf42 rfl rfl rfl rfl rfl (by first | exact U0 | exact U1 | exact U2 | exact U3 | exact U4 | exact U5 | exact U6 | exact U7 | exact U8 | exact U9 | exact U10 | exact U11 | exact U12 | exact U13 | exact U14 | exact U15 | exact U16 | exact U17 | exact U18 | exact U19 | exact U20 | exact U21 | exact U22 | exact U23) (by rfl) ?_)
                          refine SPL_nil ?_
                          refine thenP_n ?_
                          refine SP_seq ?_
                          refine SP_region ?_
                          refine SPL_y (y_loads Tryz.isAgg42 Tryz.sizeOf42 rfl rfl (by repeat (first | exact Cells.all _ | exact Cells.amid hpre rfl (by decide) | exact Cells.head rfl | apply Cells.tail))) rfl ?_
                          obtain ⟨o30, hq30, hP⟩ := bndO hP
                          injection hq30 with hq30
                          subst hq30
                          refine SPL_one rfl (SP1_callp (vm_tabOf b ph _ _ s_index _ hM) Tryz.call294 rfl rfl (by repeat (first | exact Part.nil _ | (apply Part.cons; with_reducible (first | exact P0 | exact P1 | exact P2 | exact P3 | exact P4 | exact P5 | exact P6 | exact P7 | exact P8 | exact P9 | exact P10 | exact P11 | exact P12 | exact P13 | exact P14 | exact P15 | exact P16 | exact P17 | exact P18 | exact P19 | exact P20 | exact P21 | exact P22 | exact P23)) | (apply Part.flat; simp only [List.cons_append, List.nil_append]) | (apply Part.cons; (first | exact P0 | exact P1 | exact P2 | exact P3 | exact P4 | exact P5 | exact P6 | exact P7 | exact P8 | exact P9 | exact P10 | exact P11 | exact P12 | exact P13 | exact P14 | exact P15 | exact P16 | exact P17 | exact P18 | exact P19 | exact P20 | exact P21 | exact P22 | exact P23)) | (apply Part.nilc))) ?_ ?_)
                          · rintro c post H' ⟨ex, hhx, sgx, hex, rfl, hkx, hMx, rfl⟩ hH
                            rw [hex] at hP
                            try simp only [List.cons_append, List.nil_append] at hH
                            subst hH
                            refine thenP_panic (inBlockP_panic (bodyP_panic (H' := [sgx, escS ex]) (by repeat (first | exact Part.nil _ | (apply Part.cons; with_reducible (first | exact P0 | exact P1 | exact P2 | exact P3 | exact P4 | exact P5 | exact P6 | exact P7 | exact P8 | exact P9 | exact P10 | exact P11 | exact P12 | exact P13 | exact P14 | exact P15 | exact P16 | exact P17 | exact P18 | exact P19 | exact P20 | exact P21 | exact P22 | exact P23)) | (apply Part.flat; simp only [List.cons_append, List.nil_append]) | (apply Part.cons; (first | exact P0 | exact P1 | exact P2 | exact P3 | exact P4 | exact P5 | exact P6 | exact P7 | exact P8 | exact P9 | exact P10 | exact P11 | exact P12 | exact P13 | exact P14 | exact P15 | exact P16 | exact P17 | exact P18 | exact P19 | exact P20 | exact P21 | exact P22 | exact P23)) | (apply Part.nilc))) ?_))
                            rw [bindO_esc] at hP
                            injection hP with hP
                            subst hP
                            exact ⟨ex, hhx, sgx, rfl, rfl, hk.trans hkx, hMx, rfl⟩
                          rintro v post H' ⟨a30, hok30, rfl, rfl⟩ hH
                          rw [hok30] at hP
                          try simp only [List.cons_append, List.nil_append] at hH
                          subst hH
                          dsimp only [bindO] at hP
                          refine SPL_y (y_assign rfl) rfl ?_
                          refine SPL_nil ?_
                          refine thenP_n ?_
                          refine SP_seq ?_
                          obtain ⟨vg, htg, hP⟩ := bnd1 hP
                          obtain ⟨jg, hjg, hjl, hkn, eg, hgm⟩ := tget_some htg
                          rw [hjg]
                          have htc : ∀ H : Hp, Cell (sg29 :: H) b.vb (0 + 1) (pt b.tb) := fun H => hM.tabs
                          obtain ⟨r, stb, r2, hseg, htb, hputB⟩ := hM.opnB
                          subst hseg
                          have htc2 : ∀ H : Hp, Cell (r :: stb :: r2 :: H) b.vb (0 + 1) (pt b.tb) := fun H => Cell.opened (pre := [r, stb, r2]) (htc [])
                          refine SP_openAt [r, stb, r2] (by first | exact P0 | exact P1 | exact P2 | exact P3 | exact P4 | exact P5 | exact P6 | exact P7 | exact P8 | exact P9 | exact P10 | exact P11 | exact P12 | exact P13 | exact P14 | exact P15 | exact P16 | exact P17 | exact P18 | exact P19 | exact P20 | exact P21 | exact P22 | exact P23) ?_
                          simp only [List.cons_append, List.nil_append]
                          refine SP_drawG 6 mixed (Part.refl _) ?_
                          refine SPG_pre (fuel' := 7) [(0, 0), (1, 0), (2, 0), (4, 0), (3, 1), (5, 1)] (by kernel_rfl) (fun _ _ _ _ _ h => h) ?_
                          refine SPP_p rfl (y_move rfl) rfl ?_
                          refine SPP_p rfl (y_nil rfl) rfl ?_
                          refine SPP_p rfl (y_fa fld_115_1 rfl) rfl ?_
                          refine SPP_p rfl (y_move rfl) rfl ?_
                          refine SPP_h rfl (y_load Tryz.isAgg54 rfl (by repeat (first | exact (htc2 _) | apply Cell.tail))) rfl ?_
                          refine SPP_h rfl (y_loads Tryz.isAgg42 Tryz.sizeOf42 rfl rfl (by repeat (first | exact Cells.all _ | exact Cells.amid hpre rfl (by decide) | exact Cells.head rfl | apply Cells.tail))) rfl ?_
                          refine SPP_nil ?_
                          refine SPG_two (i := 6) (j := 10) (by kernel_rfl) rfl rfl rfl rfl ?_ ?_
                          · refine SP1_call (tabs_Get b.tb b.nb m29.vs.tabs stb htb (by omega) jg (by omega) v28 (by omega) vg eg hgm) Tryz.call292 rfl rfl (by repeat (first | exact Part.nil _ | (apply Part.cons; with_reducible (first | exact P0 | exact P1 | exact P2 | exact P3 | exact P4 | exact P5 | exact P6 | exact P7 | exact P8 | exact P9 | exact P10 | exact P11 | exact P12 | exact P13 | exact P14 | exact P15 | exact P16 | exact P17 | exact P18 | exact P19 | exact P20 | exact P21 | exact P22 | exact P23)) | (apply Part.flat; simp only [List.cons_append, List.nil_append]) | (apply Part.cons; (first | exact P0 | exact P1 | exact P2 | exact P3 | exact P4 | exact P5 | exact P6 | exact P7 | exact P8 | exact P9 | exact P10 | exact P11 | exact P12 | exact P13 | exact P14 | exact P15 | exact P16 | exact P17 | exact P18 | exact P19 | exact P20 | exact P21 | exact P22 | exact P23)) | (apply Part.nilc))) ?_
                            rintro v post H' ⟨rfl, stb1, htb1, rfl⟩ hH
                            try simp only [List.cons_append, List.nil_append] at hH
                            subst hH
                            refine ⟨fun h => absurd rfl h, ?_⟩
                            have hM := hputB m29.vs.tabs stb1 htb1
                            refine SPG_ord [(7, 0), (8, 0), (9, 0), (10, 3), (11, 3), (12, 0)] (by kernel_rfl) (fun _ _ _ _ _ h => h) ?_
                            refine SPO_p rfl (y_move rfl) rfl ?_
                            refine SPO_p rfl (y_ext rfl rfl) rfl ?_
                            refine SPO_p rfl (y_ext rfl rfl) rfl ?_
                            refine SPO_z (k := 0) rfl rfl (SP1_alloc Tryz.zeroValue42 rfl rfl ?_)
                            intro b23
                            refine SPO_z (k := 0) rfl rfl (SP1_storeAll Tryz.sizeOf42 rfl rfl rfl rfl rfl (by first | exact U0 | exact U1 | exact U2 | exact U3 | exact U4 | exact U5 | exact U6 | exact U7 | exact U8 | exact U9 | exact U10 | exact U11 | exact U12 | exact U13 | exact U14 | exact U15 | exact U16 | exact U17 | exact U18 | exact U19 | exact U20 | exact U21 | exact U22 | exact U23) (by rfl) ?_)
                            refine SPO_p rfl (y_assign rfl) rfl ?_
                            refine SPO_nil ?_
                            refine thenP_n ?_
                            refine SP_part (H' := [List.flatten [r, stb1, r2], blk b23 42 (valV vg)]) (by repeat (first | exact Part.nil _ | (apply Part.cons; with_reducible (first | exact P0 | exact P1 | exact P2 | exact P3 | exact P4 | exact P5 | exact P6 | exact P7 | exact P8 | exact P9 | exact P10 | exact P11 | exact P12 | exact P13 | exact P14 | exact P15 | exact P16 | exact P17 | exact P18 | exact P19 | exact P20 | exact P21 | exact P22 | exact P23)) | (apply Part.flat; simp only [List.cons_append, List.nil_append]) | (apply Part.cons; (first | exact P0 | exact P1 | exact P2 | exact P3 | exact P4 | exact P5 | exact P6 | exact P7 | exact P8 | exact P9 | exact P10 | exact P11 | exact P12 | exact P13 | exact P14 | exact P15 | exact P16 | exact P17 | exact P18 | exact P19 | exact P20 | exact P21 | exact P22 | exact P23)) | (apply Part.nilc))) ?_
                            refine SP_region ?_
                            refine SPL_y (y_move rfl) rfl ?_
                            refine SPL_y (y_loads Tryz.isAgg42 Tryz.sizeOf42 rfl rfl (by repeat (first | exact Cells.all _ | exact Cells.amid hpre rfl (by decide) | exact Cells.head rfl | apply Cells.tail))) rfl ?_
                            refine SPL_one rfl (SP1_slice1 el_90 rfl rfl rfl rfl rfl ?_)
                            intro b194
                            unfold okU at hP
                            obtain ⟨mp, hpu, hP⟩ := bnd1 hP
                            refine SPL_one rfl (SP1_call (vm_push b ph _ _ hpu _ hM) Tryz.call142 rfl rfl (by repeat (first | exact Part.nil _ | (apply Part.cons; with_reducible (first | exact P0 | exact P1 | exact P2 | exact P3 | exact P4 | exact P5 | exact P6 | exact P7 | exact P8 | exact P9 | exact P10 | exact P11 | exact P12 | exact P13 | exact P14 | exact P15 | exact P16 | exact P17 | exact P18 | exact P19 | exact P20 | exact P21 | exact P22 | exact P23)) | (apply Part.flat; simp only [List.cons_append, List.nil_append]) | (apply Part.cons; (first | exact P0 | exact P1 | exact P2 | exact P3 | exact P4 | exact P5 | exact P6 | exact P7 | exact P8 | exact P9 | exact P10 | exact P11 | exact P12 | exact P13 | exact P14 | exact P15 | exact P16 | exact P17 | exact P18 | exact P19 | exact P20 | exact P21 | exact P22 | exact P23)) | (apply Part.nilc))) ?_)
                            rintro v post H' ⟨rfl, hhp, sgp, hkp, hM, rfl⟩ hH
                            try simp only [List.cons_append, List.nil_append] at hH
                            subst hH
                            replace hk := hk.trans hkp
                            refine SPL_nil ?_
                            refine inBlockP_n ?_
                            refine bodyP_end (H' := [sgp]) (Res0 rfl) (by repeat (first | exact Part.nil _ | (apply Part.cons; with_reducible (first | exact P0 | exact P1 | exact P2 | exact P3 | exact P4 | exact P5 | exact P6 | exact P7 | exact P8 | exact P9 | exact P10 | exact P11 | exact P12 | exact P13 | exact P14 | exact P15 | exact P16 | exact P17 | exact P18 | exact P19 | exact P20 | exact P21 | exact P22 | exact P23)) | (apply Part.flat; simp only [List.cons_append, List.nil_append]) | (apply Part.cons; (first | exact P0 | exact P1 | exact P2 | exact P3 | exact P4 | exact P5 | exact P6 | exact P7 | exact P8 | exact P9 | exact P10 | exact P11 | exact P12 | exact P13 | exact P14 | exact P15 | exact P16 | exact P17 | exact P18 | exact P19 | exact P20 | exact P21 | exact P22 | exact P23)) | (apply Part.nilc))) ?_
                            injection hP with hP
                            subst hP
                            exact ⟨(), _, rfl, rfl, _, _, hk, hM, rfl⟩
                          refine SP1_alloc Tryz.zeroValue42 rfl rfl ?_
                          intro b23
                          refine ⟨fun _ => ⟨_, (by repeat (first | exact Part.nil _ | (apply Part.cons; with_reducible (first | exact P0 | exact P1 | exact P2 | exact P3 | exact P4 | exact P5 | exact P6 | exact P7 | exact P8 | exact P9 | exact P10 | exact P11 | exact P12 | exact P13 | exact P14 | exact P15 | exact P16 | exact P17 | exact P18 | exact P19 | exact P20 | exact P21 | exact P22 | exact P23)) | (apply Part.flat; simp only [List.cons_append, List.nil_append]) | (apply Part.cons; (first | exact P0 | exact P1 | exact P2 | exact P3 | exact P4 | exact P5 | exact P6 | exact P7 | exact P8 | exact P9 | exact P10 | exact P11 | exact P12 | exact P13 | exact P14 | exact P15 | exact P16 | exact P17 | exact P18 | exact P19 | exact P20 | exact P21 | exact P22 | exact P23)) | (apply Part.nilc)))⟩, ?_⟩
                          refine SPG_ord [(6, 3), (7, 0), (8, 0), (9, 0), (11, 3), (12, 0)] (by kernel_rfl) (fun _ _ _ _ _ h => h) ?_
                          refine SPO_z (k := 0) rfl rfl (SP1_call (tabs_Get b.tb b.nb m29.vs.tabs stb htb (by omega) jg (by omega) v28 (by omega) vg eg hgm) Tryz.call292 rfl rfl (by repeat (first | exact Part.nil _ | (apply Part.cons; with_reducible (first | exact P0 | exact P1 | exact P2 | exact P3 | exact P4 | exact P5 | exact P6 | exact P7 | exact P8 | exact P9 | exact P10 | exact P11 | exact P12 | exact P13 | exact P14 | exact P15 | exact P16 | exact P17 | exact P18 | exact P19 | exact P20 | exact P21 | exact P22 | exact P23)) | (apply Part.flat; simp only [List.cons_append, List.nil_append]) | (apply Part.cons; (first | exact P0 | exact P1 | exact P2 | exact P3 | exact P4 | exact P5 | exact P6 | exact P7 | exact P8 | exact P9 | exact P10 | exact P11 | exact P12 | exact P13 | exact P14 | exact P15 | exact P16 | exact P17 | exact P18 | exact P19 | exact P20 | exact P21 | exact P22 | exact P23)) | (apply Part.nilc))) ?_)
                          rintro v post H' ⟨rfl, stb1, htb1, rfl⟩ hH
                          try simp only [List.cons_append, List.nil_append] at hH
                          subst hH
                          have hM := hputB m29.vs.tabs stb1 htb1
                          refine SPO_p rfl (y_move rfl) rfl ?_
                          refine SPO_p rfl (y_ext rfl rfl) rfl ?_
                          refine SPO_p rfl (y_ext rfl rfl) rfl ?_
                          refine SPO_z (k := 0) rfl rfl (SP1_storeAll Tryz.sizeOf42 rfl rfl rfl rfl rfl (by first | exact U0 | exact U1 | exact U2 | exact U3 | exact U4 | exact U5 | exact U6 | exact U7 | exact U8 | exact U9 | exact U10 | exact U11 | exact U12 | exact U13 | exact U14 | exact U15 | exact U16 | exact U17 | exact U18 | exact U19 | exact U20 | exact U21 | exact U22 | exact U23) (by rfl) ?_)
                          refine SPO_p rfl (y_assign rfl) rfl ?_
                          refine SPO_nil ?_
                          refine thenP_n ?_
                          refine SP_part (H' := [List.flatten [r, stb1, r2], blk b23 42 (valV vg)]) (by repeat (first | exact Part.nil _ | (apply Part.cons; with_reducible (first | exact P0 | exact P1 | exact P2 | exact P3 | exact P4 | exact P5 | exact P6 | exact P7 | exact P8 | exact P9 | exact P10 | exact P11 | exact P12 | exact P13 | exact P14 | exact P15 | exact P16 | exact P17 | exact P18 | exact P19 | exact P20 | exact P21 | exact P22 | exact P23)) | (apply Part.flat; simp only [List.cons_append, List.nil_append]) | (apply Part.cons; (first | exact P0 | exact P1 | exact P2 | exact P3 | exact P4 | exact P5 | exact P6 | exact P7 | exact P8 | exact P9 | exact P10 | exact P11 | exact P12 | exact P13 | exact P14 | exact P15 | exact P16 | exact P17 | exact P18 | exact P19 | exact P20 | exact P21 | exact P22 | exact P23)) | (apply Part.nilc))) ?_
                          refine SP_region ?_
                          refine SPL_y (y_move rfl) rfl ?_
                          refine SPL_y (y_loads Tryz.isAgg42 Tryz.sizeOf42 rfl rfl (by repeat (first | exact Cells.all _ | exact Cells.amid hpre rfl (by decide) | exact Cells.head rfl | apply Cells.tail))) rfl ?_
                          refine SPL_one rfl (SP1_slice1 el_90 rfl rfl rfl rfl rfl ?_)
                          intro b194
                          unfold okU at hP
                          obtain ⟨mp, hpu, hP⟩ := bnd1 hP
                          refine SPL_one rfl (SP1_call (vm_push b ph _ _ hpu _ hM) Tryz.call142 rfl rfl (by repeat (first | exact Part.nil _ | (apply Part.cons; with_reducible (first | exact P0 | exact P1 | exact P2 | exact P3 | exact P4 | exact P5 | exact P6 | exact P7 | exact P8 | exact P9 | exact P10 | exact P11 | exact P12 | exact P13 | exact P14 | exact P15 | exact P16 | exact P17 | exact P18 | exact P19 | exact P20 | exact P21 | exact P22 | exact P23)) | (apply Part.flat; simp only [List.cons_append, List.nil_append]) | (apply Part.cons; (first | exact P0 | exact P1 | exact P2 | exact P3 | exact P4 | exact P5 | exact P6 | exact P7 | exact P8 | exact P9 | exact P10 | exact P11 | exact P12 | exact P13 | exact P14 | exact P15 | exact P16 | exact P17 | exact P18 | exact P19 | exact P20 | exact P21 | exact P22 | exact P23)) | (apply Part.nilc))) ?_)
                          rintro v post H' ⟨rfl, hhp, sgp, hkp, hM, rfl⟩ hH
                          try simp only [List.cons_append, List.nil_append] at hH
                          subst hH
                          replace hk := hk.trans hkp
                          refine SPL_nil ?_
                          refine inBlockP_n ?_
                          refine bodyP_end (H' := [sgp]) (Res0 rfl) (by repeat (first | exact Part.nil _ | (apply Part.cons; with_reducible (first | exact P0 | exact P1 | exact P2 | exact P3 | exact P4 | exact P5 | exact P6 | exact P7 | exact P8 | exact P9 | exact P10 | exact P11 | exact P12 | exact P13 | exact P14 | exact P15 | exact P16 | exact P17 | exact P18 | exact P19 | exact P20 | exact P21 | exact P22 | exact P23)) | (apply Part.flat; simp only [List.cons_append, List.nil_append]) | (apply Part.cons; (first | exact P0 | exact P1 | exact P2 | exact P3 | exact P4 | exact P5 | exact P6 | exact P7 | exact P8 | exact P9 | exact P10 | exact P11 | exact P12 | exact P13 | exact P14 | exact P15 | exact P16 | exact P17 | exact P18 | exact P19 | exact P20 | exact P21 | exact P22 | exact P23)) | (apply Part.nilc))) ?_
                          injection hP with hP
                          subst hP
                          exact ⟨(), _, rfl, rfl, _, _, hk, hM, rfl⟩
                      intro h27_0
                      first | rw [if_neg h27_0] at hP | rw [if_pos (Decidable.not_not.1 h27_0)] at hP | skip
                      as_aux_lemma =>
                        refine SPL_y (y_assign rfl) rfl ?_
                        refine SPL_nil ?_
                        refine thenP_n ?_
                        refine SP_cond_f rfl ?_
                        refine SP_seq ?_
                        refine SP_region ?_
                        refine SPL_if (y_eql rfl rfl) rfl ?_ ?_
                        · intro h33_0
                          first | rw [if_pos h33_0] at hP | rw [if_neg h33_0] at hP | skip
                          as_aux_lemma =>
                            refine SPL_y (y_assign rfl) rfl ?_
                            refine SPL_nil ?_
                            refine thenP_n ?_
                            refine SP_cond_t rfl ?_
                            refine SP_seq ?_
                            unfold pSetT at hP
                            refine SP_region ?_
                            refine SPL_y (y_move rfl) rfl ?_
                            obtain ⟨v34, m34, hq34, hP⟩ := bnd2 hP
                            refine SPL_one rfl (SP1_call (vm_pop b ph _ hq34 _ hM) Tryz.call264 rfl rfl (by repeat (first | exact Part.nil _ | (apply Part.cons; with_reducible (first | exact P0 | exact P1 | exact P2 | exact P3 | exact P4 | exact P5 | exact P6 | exact P7 | exact P8 | exact P9 | exact P10 | exact P11 | exact P12 | exact P13 | exact P14 | exact P15 | exact P16 | exact P17 | exact P18 | exact P19 | exact P20 | exact P21 | exact P22 | exact P23)) | (apply Part.flat; simp only [List.cons_append, List.nil_append]) | (apply Part.cons; (first | exact P0 | exact P1 | exact P2 | exact P3 | exact P4 | exact P5 | exact P6 | exact P7 | exact P8 | exact P9 | exact P10 | exact P11 | exact P12 | exact P13 | exact P14 | exact P15 | exact P16 | exact P17 | exact P18 | exact P19 | exact P20 | exact P21 | exact P22 | exact P23)) | (apply Part.nilc))) ?_)
                            rintro v post H' ⟨rfl, sg34, hM, rfl⟩ hH
                            try simp only [List.cons_append, List.nil_append] at hH
                            subst hH
                            refine SPL_one rfl (SP1_alloc Tryz.zeroValue42 rfl rfl ?_)
                            intro b25
                            refine SPL_one rfl (SP1_storeAll Tryz.sizeOf42 rfl rfl rfl rfl rfl (by first | exact U0 | exact U1 | exact U2 | exact U3 | exact U4 | exact U5 | exact U6 | exact U7 | exact U8 | exact U9 | exact U10 | exact U11 | exact U12 | exact U13 | exact U14 | exact U15 | exact U16 | exact U17 | exact U18 | exact U19 | exact U20 | exact U21 | exact U22 | exact U23) (by rfl) ?_)
                            refine SPL_nil ?_
                            refine thenP_n ?_
                            refine SP_seq ?_
                            refine SP_region ?_
                            refine SPL_y (y_move rfl) rfl ?_
                            obtain ⟨v35, m35, hq35, hP⟩ := bnd2 hP
                            refine SPL_one rfl (SP1_call (vm_pop b ph _ hq35 _ hM) Tryz.call264 rfl rfl (by repeat (first | exact Part.nil _ | (apply Part.cons; with_reducible (first | exact P0 | exact P1 | exact P2 | exact P3 | exact P4 | exact P5 | exact P6 | exact P7 | exact P8 | exact P9 | exact P10 | exact P11 | exact P12 | exact P13 | exact P14 | exact P15 | exact P16 | exact P17 | exact P18 | exact P19 | exact P20 | exact P21 | exact P22 | exact P23)) | (apply Part.flat; simp only [List.cons_append, List.nil_append]) | (apply Part.cons; (first | exact P0 | exact P1 | exact P2 | exact P3 | exact P4 | exact P5 | exact P6 | exact P7 | exact P8 | exact P9 | exact P10 | exact P11 | exact P12 | exact P13 | exact P14 | exact P15 | exact P16 | exact P17 | exact P18 | exact P19 | exact P20 | exact P21 | exact P22 | exact P23)) | (apply Part.nilc))) ?_)
                            rintro v post H' ⟨rfl, sg35, hM, rfl⟩ hH
                            try simp only [List.cons_append, List.nil_append] at hH
                            subst hH
                            refine SPL_one rfl (SP1_alloc Tryz.zeroValue42 rfl rfl ?_)
                            intro b26
                            refine SPL_one rfl (SP1_storeAll Tryz.sizeOf42 rfl rfl rfl rfl rfl (by first | exact U0 | exact U1 | exact U2 | exact U3 | exact U4 | exact U5 | exact U6 | exact U7 | exact U8 | exact U9 | exact U10 | exact U11 | exact U12 | exact U13 | exact U14 | exact U15 | exact U16 | exact U17 | exact U18 | exact U19 | exact U20 | exact U21 | exact U22 | exact U23) (by rfl) ?_)
                            refine SPL_nil ?_
                            refine thenP_n ?_
                            refine SP_seq ?_
                            refine SP_region ?_
                            refine SPL_y (y_move rfl) rfl ?_
                            obtain ⟨v36, m36, hq36, hP⟩ := bnd2 hP
                            refine SPL_one rfl (SP1_call (vm_pop b ph _ hq36 _ hM) Tryz.call264 rfl rfl (by repeat (first | exact Part.nil _ | (apply Part.cons; with_reducible (first | exact P0 | exact P1 | exact P2 | exact P3 | exact P4 | exact P5 | exact P6 | exact P7 | exact P8 | exact P9 | exact P10 | exact P11 | exact P12 | exact P13 | exact P14 | exact P15 | exact P16 | exact P17 | exact P18 | exact P19 | exact P20 | exact P21 | exact P22 | exact P23)) | (apply Part.flat; simp only [List.cons_append, List.nil_append]) | (apply Part.cons; (first | exact P0 | exact P1 | exact P2 | exact P3 | exact P4 | exact P5 | exact P6 | exact P7 | exact P8 | exact P9 | exact P10 | exact P11 | exact P12 | exact P13 | exact P14 | exact P15 | exact P16 | exact P17 | exact P18 | exact P19 | exact P20 | exact P21 | exact P22 | exact P23)) | (apply Part.nilc))) ?_)
                            rintro v post H' ⟨rfl, sg36, hM, rfl⟩ hH
                            try simp only [List.cons_append, List.nil_append] at hH
                            subst hH
                            refine SPL_one rfl (SP1_alloc Tryz.zeroValue42 rfl rfl ?_)
                            intro b27
                            refine SPL_one rfl (SP1_storeAll Tryz.sizeOf42 rfl rfl rfl rfl rfl (by first | exact U0 | exact U1 | exact U2 | exact U3 | exact U4 | exact U5 | exact U6 | exact U7 | exact U8 | exact U9 | exact U10 | exact U11 | exact U12 | exact U13 | exact U14 | exact U15 | exact U16 | exact U17 | exact U18 | exact U19 | exact U20 | exact U21 | exact U22 | exact U23) (by rfl) ?_)
                            refine SPL_nil ?_
                            refine thenP_n ?_
                            refine SP_seq ?_
                            refine SP_region ?_
                            refine SPL_y (y_loads Tryz.isAgg42 Tryz.sizeOf42 rfl rfl (by repeat (first | exact Cells.all _ | exact Cells.amid hpre rfl (by decide) | exact Cells.head rfl | apply Cells.tail))) rfl ?_
                            obtain ⟨o37, hq37, hP⟩ := bndO hP
                            injection hq37 with hq37
                            subst hq37
                            refine SPL_one rfl (SP1_callp (vm_tabOf b ph _ _ s_index _ hM) Tryz.call294 rfl rfl (by repeat (first | exact Part.nil _ | (apply Part.cons; with_reducible (first | exact P0 | exact P1 | exact P2 | exact P3 | exact P4 | exact P5 | exact P6 | exact P7 | exact P8 | exact P9 | exact P10 | exact P11 | exact P12 | exact P13 | exact P14 | exact P15 | exact P16 | exact P17 | exact P18 | exact P19 | exact P20 | exact P21 | exact P22 | exact P23)) | (apply Part.flat; simp only [List.cons_append, List.nil_append]) | (apply Part.cons; (first | exact P0 | exact P1 | exact P2 | exact P3 | exact P4 | exact P5 | exact P6 | exact P7 | exact P8 | exact P9 | exact P10 | exact P11 | exact P12 | exact P13 | exact P14 | exact P15 | exact P16 | exact P17 | exact P18 | exact P19 | exact P20 | exact P21 | exact P22 | exact P23)) | (apply Part.nilc))) ?_ ?_)
                            · rintro c post H' ⟨ex, hhx, sgx, hex, rfl, hkx, hMx, rfl⟩ hH
                              rw [hex] at hP
                              try simp only [List.cons_append, List.nil_append] at hH
                              subst hH
                              refine thenP_panic (inBlockP_panic (bodyP_panic (H' := [sgx, escS ex]) (by repeat (first | exact Part.nil _ | (apply Part.cons; with_reducible (first | exact P0 | exact P1 | exact P2 | exact P3 | exact P4 | exact P5 | exact P6 | exact P7 | exact P8 | exact P9 | exact P10 | exact P11 | exact P12 | exact P13 | exact P14 | exact P15 | exact P16 | exact P17 | exact P18 | exact P19 | exact P20 | exact P21 | exact P22 | exact P23)) | (apply Part.flat; simp only [List.cons_append, List.nil_append]) | (apply Part.cons; (first | exact P0 | exact P1 | exact P2 | exact P3 | exact P4 | exact P5 | exact P6 | exact P7 | exact P8 | exact P9 | exact P10 | exact P11 | exact P12 | exact P13 | exact P14 | exact P15 | exact P16 | exact P17 | exact P18 | exact P19 | exact P20 | exact P21 | exact P22 | exact P23)) | (apply Part.nilc))) ?_))
                              rw [bindO_esc] at hP
                              injection hP with hP
                              subst hP
                              exact ⟨ex, hhx, sgx, rfl, rfl, hk.trans hkx, hMx, rfl⟩
                            rintro v post H' ⟨a37, hok37, rfl, rfl⟩ hH
                            rw [hok37] at hP
                            try simp only [List.cons_append, List.nil_append] at hH
                            subst hH
                            dsimp only [bindO] at hP
                            refine SPL_y (y_assign rfl) rfl ?_
                            refine SPL_nil ?_
                            refine thenP_n ?_
                            refine SP_region ?_
                            refine SPL_y (y_move rfl) rfl ?_
                            refine SPL_y (y_move rfl) rfl ?_
                            refine SPL_y (y_loads Tryz.isAgg42 Tryz.sizeOf42 rfl rfl (by repeat (first | exact Cells.all _ | exact Cells.amid hpre rfl (by decide) | exact Cells.head rfl | apply Cells.tail))) rfl ?_
                            refine SPL_y (y_loads Tryz.isAgg42 Tryz.sizeOf42 rfl rfl (by repeat (first | exact Cells.all _ | exact Cells.amid hpre rfl (by decide) | exact Cells.head rfl | apply Cells.tail))) rfl ?_
                            refine SPL_one rfl (SP1_callp (vm_store b ph _ hP _ hM) Tryz.call293 rfl rfl (by repeat (first | exact Part.nil _ | (apply Part.cons; with_reducible (first | exact P0 | exact P1 | exact P2 | exact P3 | exact P4 | exact P5 | exact P6 | exact P7 | exact P8 | exact P9 | exact P10 | exact P11 | exact P12 | exact P13 | exact P14 | exact P15 | exact P16 | exact P17 | exact P18 | exact P19 | exact P20 | exact P21 | exact P22 | exact P23)) | (apply Part.flat; simp only [List.cons_append, List.nil_append]) | (apply Part.cons; (first | exact P0 | exact P1 | exact P2 | exact P3 | exact P4 | exact P5 | exact P6 | exact P7 | exact P8 | exact P9 | exact P10 | exact P11 | exact P12 | exact P13 | exact P14 | exact P15 | exact P16 | exact P17 | exact P18 | exact P19 | exact P20 | exact P21 | exact P22 | exact P23)) | (apply Part.nilc))) ?_ ?_)
                            · rintro c post H' ⟨ex, hhx, sgx, rfl, rfl, hkx, hMx, rfl⟩ hH
                              try simp only [List.cons_append, List.nil_append] at hH
                              subst hH
                              refine inBlockP_panic (bodyP_panic (H' := [sgx, escS ex]) (by repeat (first | exact Part.nil _ | (apply Part.cons; with_reducible (first | exact P0 | exact P1 | exact P2 | exact P3 | exact P4 | exact P5 | exact P6 | exact P7 | exact P8 | exact P9 | exact P10 | exact P11 | exact P12 | exact P13 | exact P14 | exact P15 | exact P16 | exact P17 | exact P18 | exact P19 | exact P20 | exact P21 | exact P22 | exact P23)) | (apply Part.flat; simp only [List.cons_append, List.nil_append]) | (apply Part.cons; (first | exact P0 | exact P1 | exact P2 | exact P3 | exact P4 | exact P5 | exact P6 | exact P7 | exact P8 | exact P9 | exact P10 | exact P11 | exact P12 | exact P13 | exact P14 | exact P15 | exact P16 | exact P17 | exact P18 | exact P19 | exact P20 | exact P21 | exact P22 | exact P23)) | (apply Part.nilc))) ?_)
                              exact ⟨ex, hhx, sgx, rfl, rfl, hk.trans hkx, hMx, rfl⟩
                            rintro v post H' ⟨al, ml, rfl, rfl, hhl, sgp, hkl, hM, rfl⟩ hH
                            try simp only [List.cons_append, List.nil_append] at hH
                            subst hH
                            replace hk := hk.trans hkl
                            refine SPL_nil ?_
                            refine inBlockP_n ?_
                            refine bodyP_end (H' := [sgp]) (Res0 rfl) (by repeat (first | exact Part.nil _ | (apply Part.cons; with_reducible (first | exact P0 | exact P1 | exact P2 | exact P3 | exact P4 | exact P5 | exact P6 | exact P7 | exact P8 | exact P9 | exact P10 | exact P11 | exact P12 | exact P13 | exact P14 | exact P15 | exact P16 | exact P17 | exact P18 | exact P19 | exact P20 | exact P21 | exact P22 | exact P23)) | (apply Part.flat; simp only [List.cons_append, List.nil_append]) | (apply Part.cons; (first | exact P0 | exact P1 | exact P2 | exact P3 | exact P4 | exact P5 | exact P6 | exact P7 | exact P8 | exact P9 | exact P10 | exact P11 | exact P12 | exact P13 | exact P14 | exact P15 | exact P16 | exact P17 | exact P18 | exact P19 | exact P20 | exact P21 | exact P22 | exact P23)) | (apply Part.nilc))) ?_
                            exact ⟨al, _, rfl, rfl, _, _, hk, hM, rfl⟩
                        intro h33_0
                        first | rw [if_neg h33_0] at hP | rw [if_pos (Decidable.not_not.1 h33_0)] at hP | skip
                        as_aux_lemma =>
                          refine SPL_y (y_assign rfl) rfl ?_
                          refine SPL_nil ?_
                          refine thenP_n ?_
                          refine SP_cond_f rfl ?_
                          refine SP_seq ?_
                          refine SP_region ?_
                          refine SPL_if (y_eql rfl rfl) rfl ?_ ?_
                          · intro h39_0
                            first | rw [if_pos h39_0] at hP | rw [if_neg h39_0] at hP | skip
                            as_aux_lemma =>
                              refine SPL_y (y_assign rfl) rfl ?_
                              refine SPL_nil ?_
                              refine thenP_n ?_
                              refine SP_cond_t rfl ?_
                              refine SP_seq ?_
                              unfold pSetI at hP
                              refine SP_region ?_
                              refine SPL_y (y_move rfl) rfl ?_
                              obtain ⟨v40, m40, hq40, hP⟩ := bnd2 hP
                              refine SPL_one rfl (SP1_call (vm_pop b ph _ hq40 _ hM) Tryz.call264 rfl rfl (by repeat (first | exact Part.nil _ | (apply Part.cons; with_reducible (first | exact P0 | exact P1 | exact P2 | exact P3 | exact P4 | exact P5 | exact P6 | exact P7 | exact P8 | exact P9 | exact P10 | exact P11 | exact P12 | exact P13 | exact P14 | exact P15 | exact P16 | exact P17 | exact P18 | exact P19 | exact P20 | exact P21 | exact P22 | exact P23)) | (apply Part.flat; simp only [List.cons_append, List.nil_append]) | (apply Part.cons; (first | exact P0 | exact P1 | exact P2 | exact P3 | exact P4 | exact P5 | exact P6 | exact P7 | exact P8 | exact P9 | exact P10 | exact P11 | exact P12 | exact P13 | exact P14 | exact P15 | exact P16 | exact P17 | exact P18 | exact P19 | exact P20 | exact P21 | exact P22 | exact P23)) | (apply Part.nilc))) ?_)
                              rintro v post H' ⟨rfl, sg40, hM, rfl⟩ hH
                              try simp only [List.cons_append, List.nil_append] at hH
                              subst hH
                              refine SPL_one rfl (SP1_alloc Tryz.zeroValue42 rfl rfl ?_)
                              intro b29
                              refine SPL_one rfl (SP1_storeAll Tryz.sizeOf42 rfl rfl rfl rfl rfl (by first | exact U0 | exact U1 | exact U2 | exact U3 | exact U4 | exact U5 | exact U6 | exact U7 | exact U8 | exact U9 | exact U10 | exact U11 | exact U12 | exact U13 | exact U14 | exact U15 | exact U16 | exact U17 | exact U18 | exact U19 | exact U20 | exact U21 | exact U22 | exact U23) (by rfl) ?_)
                              refine SPL_nil ?_
                              refine thenP_n ?_
                              refine SP_seq ?_
                              obtain ⟨t4, ht4, hP⟩ := bnd1 hP
                              unfold getT at ht4
                              have hl4 : t4.stack.length ≤ 1000000 := Decidable.byContradiction fun q => by rw [if_neg q] at hP; cases hP
                              rw [if_pos hl4] at hP
                              obtain ⟨y4, hy4, hP⟩ := bnd1 hP
                              obtain ⟨g4, oa4, oc4, hg4, _, hrow4', hstk4, _, _⟩ := hM.thr ht4
                              have hn4 := (List.getElem?_eq_some_iff.1 hy4).1
                              have hi4 : getI t4.stack ((t4.stack.length : Int) - 1) = some y4 := getI_last hy4 hl4
                              obtain ⟨sq4, hsa4, hsc4⟩ := hstk4 _ _ hi4
                              have hrow4 : ∀ H : Hp, Cell (sg40 :: H) b.thb (0 + th * 5 + 2) (.slice (some ⟨sq4, 0, none⟩) t4.stack.length g4.sc) := fun H => hsa4 ▸ hrow4' H 2 _ rfl
                              refine SP_draw 12 [(0, 0), (1, 0), (2, 0), (4, 0), (5, 0), (6, 0), (3, 1), (7, 1), (8, 0), (9, 0), (10, 0), (11, 1), (12, 3), (13, 0)] mixed (by kernel_rfl) (fun _ _ _ _ _ h => h) (Part.refl _) ?_
                              refine SPO_p rfl (y_move rfl) rfl ?_
                              refine SPO_p rfl (y_nil rfl) rfl ?_
                              refine SPO_p rfl (y_fa fld_263_2 rfl) rfl ?_
                              refine SPO_p rfl (y_move rfl) rfl ?_
                              refine SPO_p rfl (y_nil rfl) rfl ?_
                              refine SPO_p rfl (y_fa fld_263_2 rfl) rfl ?_
                              refine SPO_h rfl (y_load Tryz.isAgg90 rfl (by repeat (first | exact (hrow4 _) | apply Cell.tail))) rfl ?_
                              refine SPO_h rfl (y_load Tryz.isAgg90 rfl (by repeat (first | exact (hrow4 _) | apply Cell.tail))) rfl ?_
                              refine SPO_p rfl (y_len_l Tryz.underlying90 rfl) rfl ?_
                              refine SPO_p rfl (y_sub rfl rfl (by omega)) rfl ?_
                              refine SPO_p rfl (y_ia Tryz.underlying90 Tryz.sizeOf42 rfl rfl (by omega)) rfl ?_
                              refine SPO_h rfl (y_loads Tryz.isAgg42 Tryz.sizeOf42 rfl rfl (by repeat (first | exact (hsc4 _) | apply Cells.tail))) rfl ?_
                              obtain ⟨o41, hq41, hP⟩ := bndO hP
                              injection hq41 with hq41
                              subst hq41
                              refine SPO_z (k := 0) rfl rfl (SP1_callp (vm_tabOf b ph _ _ s_index _ hM) Tryz.call294 rfl rfl (by repeat (first | exact Part.nil _ | (apply Part.cons; with_reducible (first | exact P0 | exact P1 | exact P2 | exact P3 | exact P4 | exact P5 | exact P6 | exact P7 | exact P8 | exact P9 | exact P10 | exact P11 | exact P12 | exact P13 | exact P14 | exact P15 | exact P16 | exact P17 | exact P18 | exact P19 | exact P20 | exact P21 | exact P22 | exact P23)) | (apply Part.flat; simp only [List.cons_append, List.nil_append]) | (apply Part.cons; (first | exact P0 | exact P1 | exact P2 | exact P3 | exact P4 | exact P5 | exact P6 | exact P7 | exact P8 | exact P9 | exact P10 | exact P11 | exact P12 | exact P13 | exact P14 | exact P15 | exact P16 | exact P17 | exact P18 | exact P19 | exact P20 | exact P21 | exact P22 | exact P23)) | (apply Part.nilc))) ?_ ?_)
                              · rintro c post H' ⟨ex, hhx, sgx, hex, rfl, hkx, hMx, rfl⟩ hH
                                rw [hex] at hP
                                try simp only [List.cons_append, List.nil_append] at hH
                                subst hH
                                refine thenP_panic (inBlockP_panic (bodyP_panic (H' := [sgx, escS ex]) (by repeat (first | exact Part.nil _ | (apply Part.cons; with_reducible (first | exact P0 | exact P1 | exact P2 | exact P3 | exact P4 | exact P5 | exact P6 | exact P7 | exact P8 | exact P9 | exact P10 | exact P11 | exact P12 | exact P13 | exact P14 | exact P15 | exact P16 | exact P17 | exact P18 | exact P19 | exact P20 | exact P21 | exact P22 | exact P23)) | (apply Part.flat; simp only [List.cons_append, List.nil_append]) | (apply Part.cons; (first | exact P0 | exact P1 | exact P2 | exact P3 | exact P4 | exact P5 | exact P6 | exact P7 | exact P8 | exact P9 | exact P10 | exact P11 | exact P12 | exact P13 | exact P14 | exact P15 | exact P16 | exact P17 | exact P18 | exact P19 | exact P20 | exact P21 | exact P22 | exact P23)) | (apply Part.nilc))) ?_))
                                rw [bindO_esc] at hP
                                injection hP with hP
                                subst hP
                                exact ⟨ex, hhx, sgx, rfl, rfl, hk.trans hkx, hMx, rfl⟩
                              rintro v post H' ⟨a41, hok41, rfl, rfl⟩ hH
                              rw [hok41] at hP
                              try simp only [List.cons_append, List.nil_append] at hH
                              subst hH
                              dsimp only [bindO] at hP
                              refine SPO_p rfl (y_assign rfl) rfl ?_
                              refine SPO_nil ?_
                              refine thenP_n ?_
                              refine SP_seq ?_
                              refine SP_region ?_
                              refine SPL_y (y_move rfl) rfl ?_
                              refine SPL_y (y_nil rfl) rfl ?_
                              refine SPL_y (y_fa fld_115_0 rfl) rfl ?_
                              refine SPL_y (y_load Tryz.isAgg37 rfl (by repeat (first | exact hM.num | apply Cell.tail))) rfl ?_
                              refine SPL_y (y_move rfl) rfl ?_
                              refine SPL_one rfl (SP1_call (num_FromInt (pt b.nb) x) Tryz.call177 rfl rfl (by repeat (first | exact Part.nil _ | (apply Part.cons; with_reducible (first | exact P0 | exact P1 | exact P2 | exact P3 | exact P4 | exact P5 | exact P6 | exact P7 | exact P8 | exact P9 | exact P10 | exact P11 | exact P12 | exact P13 | exact P14 | exact P15 | exact P16 | exact P17 | exact P18 | exact P19 | exact P20 | exact P21 | exact P22 | exact P23)) | (apply Part.flat; simp only [List.cons_append, List.nil_append]) | (apply Part.cons; (first | exact P0 | exact P1 | exact P2 | exact P3 | exact P4 | exact P5 | exact P6 | exact P7 | exact P8 | exact P9 | exact P10 | exact P11 | exact P12 | exact P13 | exact P14 | exact P15 | exact P16 | exact P17 | exact P18 | exact P19 | exact P20 | exact P21 | exact P22 | exact P23)) | (apply Part.nilc))) ?_)
                              rintro v post H' ⟨rfl, rfl⟩ hH
                              try simp only [List.cons_append, List.nil_append] at hH
                              subst hH
                              refine SPL_y (y_assign rfl) rfl ?_
                              refine SPL_nil ?_
                              refine thenP_n ?_
                              refine SP_region ?_
                              refine SPL_y (y_move rfl) rfl ?_
                              refine SPL_y (y_move rfl) rfl ?_
                              refine SPL_y (y_move rfl) rfl ?_
                              refine SPL_y (y_build B42 rfl rfl (by simp only [fillL, List.foldl_cons, List.foldl_nil, List.set_cons_zero, List.set_cons_succ]; exact rfl)) rfl ?_
                              refine SPL_y (y_loads Tryz.isAgg42 Tryz.sizeOf42 rfl rfl (by repeat (first | exact Cells.all _ | exact Cells.amid hpre rfl (by decide) | exact Cells.head rfl | apply Cells.tail))) rfl ?_
                              refine SPL_one rfl (SP1_callp (vm_store b ph _ hP _ hM) Tryz.call293 rfl rfl (by repeat (first | exact Part.nil _ | (apply Part.cons; with_reducible (first | exact P0 | exact P1 | exact P2 | exact P3 | exact P4 | exact P5 | exact P6 | exact P7 | exact P8 | exact P9 | exact P10 | exact P11 | exact P12 | exact P13 | exact P14 | exact P15 | exact P16 | exact P17 | exact P18 | exact P19 | exact P20 | exact P21 | exact P22 | exact P23)) | (apply Part.flat; simp only [List.cons_append, List.nil_append]) | (apply Part.cons; (first | exact P0 | exact P1 | exact P2 | exact P3 | exact P4 | exact P5 | exact P6 | exact P7 | exact P8 | exact P9 | exact P10 | exact P11 | exact P12 | exact P13 | exact P14 | exact P15 | exact P16 | exact P17 | exact P18 | exact P19 | exact P20 | exact P21 | exact P22 | exact P23)) | (apply Part.nilc))) ?_ ?_)
                              · rintro c post H' ⟨ex, hhx, sgx, rfl, rfl, hkx, hMx, rfl⟩ hH
                                try simp only [List.cons_append, List.nil_append] at hH
                                subst hH
                                refine inBlockP_panic (bodyP_panic (H' := [sgx, escS ex]) (by repeat (first | exact Part.nil _ | (apply Part.cons; with_reducible (first | exact P0 | exact P1 | exact P2 | exact P3 | exact P4 | exact P5 | exact P6 | exact P7 | exact P8 | exact P9 | exact P10 | exact P11 | exact P12 | exact P13 | exact P14 | exact P15 | exact P16 | exact P17 | exact P18 | exact P19 | exact P20 | exact P21 | exact P22 | exact P23)) | (apply Part.flat; simp only [List.cons_append, List.nil_append]) | (apply Part.cons; (first | exact P0 | exact P1 | exact P2 | exact P3 | exact P4 | exact P5 | exact P6 | exact P7 | exact P8 | exact P9 | exact P10 | exact P11 | exact P12 | exact P13 | exact P14 | exact P15 | exact P16 | exact P17 | exact P18 | exact P19 | exact P20 | exact P21 | exact P22 | exact P23)) | (apply Part.nilc))) ?_)
                                exact ⟨ex, hhx, sgx, rfl, rfl, hk.trans hkx, hMx, rfl⟩
                              rintro v post H' ⟨al, ml, rfl, rfl, hhl, sgp, hkl, hM, rfl⟩ hH
                              try simp only [List.cons_append, List.nil_append] at hH
                              subst hH
                              replace hk := hk.trans hkl
                              refine SPL_nil ?_
                              refine inBlockP_n ?_
                              refine bodyP_end (H' := [sgp]) (Res0 rfl) (by repeat (first | exact Part.nil _ | (apply Part.cons; with_reducible (first | exact P0 | exact P1 | exact P2 | exact P3 | exact P4 | exact P5 | exact P6 | exact P7 | exact P8 | exact P9 | exact P10 | exact P11 | exact P12 | exact P13 | exact P14 | exact P15 | exact P16 | exact P17 | exact P18 | exact P19 | exact P20 | exact P21 | exact P22 | exact P23)) | (apply Part.flat; simp only [List.cons_append, List.nil_append]) | (apply Part.cons; (first | exact P0 | exact P1 | exact P2 | exact P3 | exact P4 | exact P5 | exact P6 | exact P7 | exact P8 | exact P9 | exact P10 | exact P11 | exact P12 | exact P13 | exact P14 | exact P15 | exact P16 | exact P17 | exact P18 | exact P19 | exact P20 | exact P21 | exact P22 | exact P23)) | (apply Part.nilc))) ?_
                              exact ⟨al, _, rfl, rfl, _, _, hk, hM, rfl⟩
                          intro h39_0
                          first | rw [if_neg h39_0] at hP | rw [if_pos (Decidable.not_not.1 h39_0)] at hP | skip
                          as_aux_lemma =>
                            refine SPL_y (y_assign rfl) rfl ?_
                            refine SPL_nil ?_
                            refine thenP_n ?_
                            refine SP_cond_f rfl ?_
                            refine SP_seq ?_
                            refine SP_region ?_
                            refine SPL_if (y_eql rfl rfl) rfl ?_ ?_
                            · intro h44_0
                              first | rw [if_pos h44_0] at hP | rw [if_neg h44_0] at hP | skip
                              as_aux_lemma =>
                                refine SPL_y (y_assign rfl) rfl ?_
                                refine SPL_nil ?_
                                refine thenP_n ?_
                                refine SP_cond_t rfl ?_
                                refine SP_seq ?_
                                unfold pNewT at hP
                                have htc : ∀ H : Hp, Cell (seg :: H) b.vb (0 + 1) (pt b.tb) := fun H => hM.tabs
                                obtain ⟨r, stb, r2, hseg, htb, hputB⟩ := hM.opnB
                                subst hseg
                                have htc2 : ∀ H : Hp, Cell (r :: stb :: r2 :: H) b.vb (0 + 1) (pt b.tb) := fun H => Cell.opened (pre := [r, stb, r2]) (htc [])
                                refine SP_openAt [r, stb, r2] (by first | exact P0 | exact P1 | exact P2 | exact P3 | exact P4 | exact P5 | exact P6 | exact P7 | exact P8 | exact P9 | exact P10 | exact P11 | exact P12 | exact P13 | exact P14 | exact P15 | exact P16 | exact P17 | exact P18 | exact P19 | exact P20 | exact P21 | exact P22 | exact P23) ?_
                                simp only [List.cons_append, List.nil_append]
                                refine SP_region ?_
                                refine SPL_y (y_move rfl) rfl ?_
                                refine SPL_y (y_nil rfl) rfl ?_
                                refine SPL_y (y_fa fld_115_1 rfl) rfl ?_
                                refine SPL_y (y_load Tryz.isAgg54 rfl (by repeat (first | exact (htc2 _) | apply Cell.tail))) rfl ?_
                                refine SPL_one rfl (SP1_call (tabs_Make b.tb b.nb m.vs.tabs stb htb) Tryz.call79 rfl rfl (by repeat (first | exact Part.nil _ | (apply Part.cons; with_reducible (first | exact P0 | exact P1 | exact P2 | exact P3 | exact P4 | exact P5 | exact P6 | exact P7 | exact P8 | exact P9 | exact P10 | exact P11 | exact P12 | exact P13 | exact P14 | exact P15 | exact P16 | exact P17 | exact P18 | exact P19 | exact P20 | exact P21 | exact P22 | exact P23)) | (apply Part.flat; simp only [List.cons_append, List.nil_append]) | (apply Part.cons; (first | exact P0 | exact P1 | exact P2 | exact P3 | exact P4 | exact P5 | exact P6 | exact P7 | exact P8 | exact P9 | exact P10 | exact P11 | exact P12 | exact P13 | exact P14 | exact P15 | exact P16 | exact P17 | exact P18 | exact P19 | exact P20 | exact P21 | exact P22 | exact P23)) | (apply Part.nilc))) ?_)
                                rintro v post H' ⟨stb1, hv, htb1, rfl⟩ hH
                                rcases Decidable.em (12 ≤ m.vs.tabs.length) with hc | hc
                                · rw [if_pos hc, if_pos hc] at hv
                                  subst hv
                                  rw [if_pos hc] at htb1 hP
                                  try simp only [List.cons_append, List.nil_append] at hH
                                  subst hH
                                  try dsimp only [cond_true, cond_false, Bool.true_or, Bool.false_or] at hP
                                  have hM := hputB _ stb1 htb1
                                  refine SPL_y (y_move rfl) rfl ?_
                                  refine SPL_y (y_ext rfl rfl) rfl ?_
                                  refine SPL_y (y_ext rfl rfl) rfl ?_
                                  refine SPL_y (y_assign rfl) rfl ?_
                                  refine SPL_y (y_assign rfl) rfl ?_
                                  refine SPL_nil ?_
                                  refine thenP_n ?_
                                  refine SP_seq ?_
                                  refine SP_seq ?_
                                  refine SP_region ?_
                                  refine SPL_y (y_move rfl) rfl ?_
                                  refine SPL_ifn (y_neq rfl rfl) rfl ?_ ?_
                                  · intro h46_1
                                    first | rw [if_neg h46_1] at hP | rw [if_pos (Decidable.not_not.1 h46_1)] at hP | skip
                                    exact absurd (by decide) h46_1
                                  intro h46_1
                                  first | rw [if_pos h46_1] at hP | rw [if_neg h46_1] at hP | skip
                                  as_aux_lemma =>
                                    refine SPL_nil ?_
                                    refine thenP_n ?_
                                    refine SP_cond_t rfl ?_
                                    refine SP_region ?_
                                    refine SPL_one rfl (SP1_callp (vm_stop 8) Tryz.call260 rfl rfl (by repeat (first | exact Part.nil _ | (apply Part.cons; with_reducible (first | exact P0 | exact P1 | exact P2 | exact P3 | exact P4 | exact P5 | exact P6 | exact P7 | exact P8 | exact P9 | exact P10 | exact P11 | exact P12 | exact P13 | exact P14 | exact P15 | exact P16 | exact P17 | exact P18 | exact P19 | exact P20 | exact P21 | exact P22 | exact P23)) | (apply Part.flat; simp only [List.cons_append, List.nil_append]) | (apply Part.cons; (first | exact P0 | exact P1 | exact P2 | exact P3 | exact P4 | exact P5 | exact P6 | exact P7 | exact P8 | exact P9 | exact P10 | exact P11 | exact P12 | exact P13 | exact P14 | exact P15 | exact P16 | exact P17 | exact P18 | exact P19 | exact P20 | exact P21 | exact P22 | exact P23)) | (apply Part.nilc))) ?_ ?_)
                                    · rintro c post H' ⟨rfl, rfl⟩ hH
                                      try simp only [List.cons_append, List.nil_append] at hH
                                      subst hH
                                      refine thenP_panic (inBlockP_panic (bodyP_panic (H' := [List.flatten [r, stb1, r2], []]) (by repeat (first | exact Part.nil _ | (apply Part.cons; with_reducible (first | exact P0 | exact P1 | exact P2 | exact P3 | exact P4 | exact P5 | exact P6 | exact P7 | exact P8 | exact P9 | exact P10 | exact P11 | exact P12 | exact P13 | exact P14 | exact P15 | exact P16 | exact P17 | exact P18 | exact P19 | exact P20 | exact P21 | exact P22 | exact P23)) | (apply Part.flat; simp only [List.cons_append, List.nil_append]) | (apply Part.cons; (first | exact P0 | exact P1 | exact P2 | exact P3 | exact P4 | exact P5 | exact P6 | exact P7 | exact P8 | exact P9 | exact P10 | exact P11 | exact P12 | exact P13 | exact P14 | exact P15 | exact P16 | exact P17 | exact P18 | exact P19 | exact P20 | exact P21 | exact P22 | exact P23)) | (apply Part.nilc))) ?_))
                                      injection hP with hP
                                      subst hP
                                      exact ⟨.trp 8 _, _, _, rfl, rfl, hk, hM, rfl⟩
                                    rintro v post H' hF hH
                                    exact hF.elim
                                · rw [if_neg hc, if_neg hc] at hv
                                  subst hv
                                  rw [if_neg hc] at htb1 hP
                                  try simp only [List.cons_append, List.nil_append] at hH
                                  subst hH
                                  try dsimp only [cond_true, cond_false, Bool.true_or, Bool.false_or] at hP
                                  have hM := hputB _ stb1 htb1
                                  refine SPL_y (y_move rfl) rfl ?_
                                  refine SPL_y (y_ext rfl rfl) rfl ?_
                                  refine SPL_y (y_ext rfl rfl) rfl ?_
                                  refine SPL_y (y_assign rfl) rfl ?_
                                  refine SPL_y (y_assign rfl) rfl ?_
                                  refine SPL_nil ?_
                                  refine thenP_n ?_
                                  refine SP_seq ?_
                                  refine SP_seq ?_
                                  refine SP_region ?_
                                  refine SPL_y (y_move rfl) rfl ?_
                                  refine SPL_if (y_neq rfl rfl) rfl ?_ ?_
                                  · intro h46_1
                                    first | rw [if_pos h46_1] at hP | rw [if_neg h46_1] at hP | skip
                                    exact absurd rfl h46_1
                                  intro h46_1
                                  first | rw [if_neg h46_1] at hP | rw [if_pos (Decidable.not_not.1 h46_1)] at hP | skip
                                  as_aux_lemma =>
                                    refine SPL_nil ?_
                                    refine thenP_n ?_
                                    refine SP_cond_f rfl ?_
                                    refine SP_skip ?_
                                    refine thenP_n ?_
                                    refine SP_part (H' := [List.flatten [r, stb1, r2]]) (by repeat (first | exact Part.nil _ | (apply Part.cons; with_reducible (first | exact P0 | exact P1 | exact P2 | exact P3 | exact P4 | exact P5 | exact P6 | exact P7 | exact P8 | exact P9 | exact P10 | exact P11 | exact P12 | exact P13 | exact P14 | exact P15 | exact P16 | exact P17 | exact P18 | exact P19 | exact P20 | exact P21 | exact P22 | exact P23)) | (apply Part.flat; simp only [List.cons_append, List.nil_append]) | (apply Part.cons; (first | exact P0 | exact P1 | exact P2 | exact P3 | exact P4 | exact P5 | exact P6 | exact P7 | exact P8 | exact P9 | exact P10 | exact P11 | exact P12 | exact P13 | exact P14 | exact P15 | exact P16 | exact P17 | exact P18 | exact P19 | exact P20 | exact P21 | exact P22 | exact P23)) | (apply Part.nilc))) ?_
                                    refine SP_region ?_
                                    refine SPL_y (y_move rfl) rfl ?_
                                    refine SPL_y (y_move rfl) rfl ?_
                                    refine SPL_y (y_conv Tryz.underlying3 Tryz.underlying40 rfl (show IntKind.u64.wrap (m.vs.tabs.length : Int) = (m.vs.tabs.length : Int) from by rw [IntKind.wrap_u64]; omega)) rfl ?_
                                    refine SPL_y (y_build B42 rfl rfl (by simp only [fillL, List.foldl_cons, List.foldl_nil, List.set_cons_zero, List.set_cons_succ]; exact rfl)) rfl ?_
                                    refine SPL_one rfl (SP1_slice1 el_90 rfl rfl rfl rfl rfl ?_)
                                    intro b257
                                    unfold okU at hP
                                    obtain ⟨mp, hpu, hP⟩ := bnd1 hP
                                    refine SPL_one rfl (SP1_call (vm_push b ph _ _ hpu _ hM) Tryz.call142 rfl rfl (by repeat (first | exact Part.nil _ | (apply Part.cons; with_reducible (first | exact P0 | exact P1 | exact P2 | exact P3 | exact P4 | exact P5 | exact P6 | exact P7 | exact P8 | exact P9 | exact P10 | exact P11 | exact P12 | exact P13 | exact P14 | exact P15 | exact P16 | exact P17 | exact P18 | exact P19 | exact P20 | exact P21 | exact P22 | exact P23)) | (apply Part.flat; simp only [List.cons_append, List.nil_append]) | (apply Part.cons; (first | exact P0 | exact P1 | exact P2 | exact P3 | exact P4 | exact P5 | exact P6 | exact P7 | exact P8 | exact P9 | exact P10 | exact P11 | exact P12 | exact P13 | exact P14 | exact P15 | exact P16 | exact P17 | exact P18 | exact P19 | exact P20 | exact P21 | exact P22 | exact P23)) | (apply Part.nilc))) ?_)
                                    rintro v post H' ⟨rfl, hhp, sgp, hkp, hM, rfl⟩ hH
                                    try simp only [List.cons_append, List.nil_append] at hH
                                    subst hH
                                    replace hk := hk.trans hkp
                                    refine SPL_nil ?_
                                    refine inBlockP_n ?_
                                    refine bodyP_end (H' := [sgp]) (Res0 rfl) (by repeat (first | exact Part.nil _ | (apply Part.cons; with_reducible (first | exact P0 | exact P1 | exact P2 | exact P3 | exact P4 | exact P5 | exact P6 | exact P7 | exact P8 | exact P9 | exact P10 | exact P11 | exact P12 | exact P13 | exact P14 | exact P15 | exact P16 | exact P17 | exact P18 | exact P19 | exact P20 | exact P21 | exact P22 | exact P23)) | (apply Part.flat; simp only [List.cons_append, List.nil_append]) | (apply Part.cons; (first | exact P0 | exact P1 | exact P2 | exact P3 | exact P4 | exact P5 | exact P6 | exact P7 | exact P8 | exact P9 | exact P10 | exact P11 | exact P12 | exact P13 | exact P14 | exact P15 | exact P16 | exact P17 | exact P18 | exact P19 | exact P20 | exact P21 | exact P22 | exact P23)) | (apply Part.nilc))) ?_
                                    injection hP with hP
                                    subst hP
                                    exact ⟨(), _, rfl, rfl, _, _, hk, hM, rfl⟩
                            intro h44_0
                            first | rw [if_neg h44_0] at hP | rw [if_pos (Decidable.not_not.1 h44_0)] at hP | skip
                            as_aux_lemma =>
                              refine SPL_y (y_assign rfl) rfl ?_
                              refine SPL_nil ?_
                              refine thenP_n ?_
                              refine SP_cond_f rfl ?_
                              refine SP_seq ?_
                              refine SP_region ?_
                              refine SPL_if (y_eql rfl rfl) rfl ?_ ?_
                              · intro h49_0
                                first | rw [if_pos h49_0] at hP | rw [if_neg h49_0] at hP | skip
                                as_aux_lemma =>
                                  refine SPL_y (y_assign rfl) rfl ?_
                                  refine SPL_nil ?_
                                  refine thenP_n ?_
                                  refine SP_cond_t rfl ?_
                                  refine SP_region ?_
                                  refine SPL_y (y_move rfl) rfl ?_
                                  obtain ⟨v50, m50, hq50, hP⟩ := bnd2 hP
                                  refine SPL_one rfl (SP1_call (vm_pop b ph _ hq50 _ hM) Tryz.call264 rfl rfl (by repeat (first | exact Part.nil _ | (apply Part.cons; with_reducible (first | exact P0 | exact P1 | exact P2 | exact P3 | exact P4 | exact P5 | exact P6 | exact P7 | exact P8 | exact P9 | exact P10 | exact P11 | exact P12 | exact P13 | exact P14 | exact P15 | exact P16 | exact P17 | exact P18 | exact P19 | exact P20 | exact P21 | exact P22 | exact P23)) | (apply Part.flat; simp only [List.cons_append, List.nil_append]) | (apply Part.cons; (first | exact P0 | exact P1 | exact P2 | exact P3 | exact P4 | exact P5 | exact P6 | exact P7 | exact P8 | exact P9 | exact P10 | exact P11 | exact P12 | exact P13 | exact P14 | exact P15 | exact P16 | exact P17 | exact P18 | exact P19 | exact P20 | exact P21 | exact P22 | exact P23)) | (apply Part.nilc))) ?_)
                                  rintro v post H' ⟨rfl, sg50, hM, rfl⟩ hH
                                  try simp only [List.cons_append, List.nil_append] at hH
                                  subst hH
                                  refine SPL_nil ?_
                                  refine inBlockP_n ?_
                                  refine bodyP_end (H' := [sg50]) (Res0 rfl) (by repeat (first | exact Part.nil _ | (apply Part.cons; with_reducible (first | exact P0 | exact P1 | exact P2 | exact P3 | exact P4 | exact P5 | exact P6 | exact P7 | exact P8 | exact P9 | exact P10 | exact P11 | exact P12 | exact P13 | exact P14 | exact P15 | exact P16 | exact P17 | exact P18 | exact P19 | exact P20 | exact P21 | exact P22 | exact P23)) | (apply Part.flat; simp only [List.cons_append, List.nil_append]) | (apply Part.cons; (first | exact P0 | exact P1 | exact P2 | exact P3 | exact P4 | exact P5 | exact P6 | exact P7 | exact P8 | exact P9 | exact P10 | exact P11 | exact P12 | exact P13 | exact P14 | exact P15 | exact P16 | exact P17 | exact P18 | exact P19 | exact P20 | exact P21 | exact P22 | exact P23)) | (apply Part.nilc))) ?_
                                  injection hP with hP
                                  subst hP
                                  exact ⟨(), _, rfl, rfl, _, _, hk, hM, rfl⟩
                              intro h49_0
                              first | rw [if_neg h49_0] at hP | rw [if_pos (Decidable.not_not.1 h49_0)] at hP | skip
                              as_aux_lemma =>
                                refine SPL_y (y_assign rfl) rfl ?_
                                refine SPL_nil ?_
                                refine thenP_n ?_
                                refine SP_cond_f rfl ?_
                                refine SP_seq ?_
                                refine SP_region ?_
                                refine SPL_if (y_eql rfl rfl) rfl ?_ ?_
                                · intro h51_0
                                  first | rw [if_pos h51_0] at hP | rw [if_neg h51_0] at hP | skip
                                  as_aux_lemma =>
                                    refine SPL_y (y_assign rfl) rfl ?_
                                    refine SPL_nil ?_
                                    refine thenP_n ?_
                                    refine SP_cond_t rfl ?_
                                    refine SP_seq ?_
                                    unfold pClo at hP
                                    refine SP_region ?_
                                    refine SPL_y (y_move rfl) rfl ?_
                                    refine SPL_y (y_move rfl) rfl ?_
                                    refine SPL_y (y_move rfl) rfl ?_
                                    refine SPL_y (y_move rfl) rfl ?_
                                    refine SPL_y (y_move rfl) rfl ?_
                                    obtain ⟨o52, hq52, hP⟩ := bndO hP
                                    refine SPL_one rfl (SP1_callp (vm_closure b ph hh hfv0 hq52 _ hM) Tryz.call295 rfl rfl (by repeat (first | exact Part.nil _ | (apply Part.cons; with_reducible (first | exact P0 | exact P1 | exact P2 | exact P3 | exact P4 | exact P5 | exact P6 | exact P7 | exact P8 | exact P9 | exact P10 | exact P11 | exact P12 | exact P13 | exact P14 | exact P15 | exact P16 | exact P17 | exact P18 | exact P19 | exact P20 | exact P21 | exact P22 | exact P23)) | (apply Part.flat; simp only [List.cons_append, List.nil_append]) | (apply Part.cons; (first | exact P0 | exact P1 | exact P2 | exact P3 | exact P4 | exact P5 | exact P6 | exact P7 | exact P8 | exact P9 | exact P10 | exact P11 | exact P12 | exact P13 | exact P14 | exact P15 | exact P16 | exact P17 | exact P18 | exact P19 | exact P20 | exact P21 | exact P22 | exact P23)) | (apply Part.nilc))) ?_ ?_)
                                    · rintro c post H' ⟨ex, hhx, sgx, rfl, rfl, hkx, hMx, rfl⟩ hH
                                      try simp only [List.cons_append, List.nil_append] at hH
                                      subst hH
                                      refine thenP_panic (inBlockP_panic (bodyP_panic (H' := [sgx, escS ex]) (by repeat (first | exact Part.nil _ | (apply Part.cons; with_reducible (first | exact P0 | exact P1 | exact P2 | exact P3 | exact P4 | exact P5 | exact P6 | exact P7 | exact P8 | exact P9 | exact P10 | exact P11 | exact P12 | exact P13 | exact P14 | exact P15 | exact P16 | exact P17 | exact P18 | exact P19 | exact P20 | exact P21 | exact P22 | exact P23)) | (apply Part.flat; simp only [List.cons_append, List.nil_append]) | (apply Part.cons; (first | exact P0 | exact P1 | exact P2 | exact P3 | exact P4 | exact P5 | exact P6 | exact P7 | exact P8 | exact P9 | exact P10 | exact P11 | exact P12 | exact P13 | exact P14 | exact P15 | exact P16 | exact P17 | exact P18 | exact P19 | exact P20 | exact P21 | exact P22 | exact P23)) | (apply Part.nilc))) ?_))
                                      rw [bindO_esc] at hP
                                      injection hP with hP
                                      subst hP
                                      exact ⟨ex, hhx, sgx, rfl, rfl, hk.trans hkx, hMx, rfl⟩
                                    rintro v post H' ⟨a52, m52, rfl, rfl, hh52, sg52, hk52, hM, rfl⟩ hH
                                    try simp only [List.cons_append, List.nil_append] at hH
                                    subst hH
                                    dsimp only [bindO] at hP
                                    replace hk := hk.trans hk52
                                    refine SPL_y (y_assign rfl) rfl ?_
                                    refine SPL_nil ?_
                                    refine thenP_n ?_
                                    have hcr : 0 ≤ a52 ∧ a52 ≤ 1000000000 := Decidable.byContradiction fun q => by rw [if_neg q] at hP; cases hP
                                    rw [if_pos hcr] at hP
                                    refine SP_region ?_
                                    refine SPL_y (y_move rfl) rfl ?_
                                    refine SPL_y (y_move rfl) rfl ?_
                                    refine SPL_y (y_conv Tryz.underlying3 Tryz.underlying40 rfl (show IntKind.u64.wrap a52 = a52 from by rw [IntKind.wrap_u64]; omega)) rfl ?_
                                    refine SPL_y (y_build B42 rfl rfl (by simp only [fillL, List.foldl_cons, List.foldl_nil, List.set_cons_zero, List.set_cons_succ]; exact rfl)) rfl ?_
                                    refine SPL_one rfl (SP1_slice1 el_90 rfl rfl rfl rfl rfl ?_)
                                    intro b275
                                    unfold okU at hP
                                    obtain ⟨mp, hpu, hP⟩ := bnd1 hP
                                    refine SPL_one rfl (SP1_call (vm_push b ph _ _ hpu _ hM) Tryz.call142 rfl rfl (by repeat (first | exact Part.nil _ | (apply Part.cons; with_reducible (first | exact P0 | exact P1 | exact P2 | exact P3 | exact P4 | exact P5 | exact P6 | exact P7 | exact P8 | exact P9 | exact P10 | exact P11 | exact P12 | exact P13 | exact P14 | exact P15 | exact P16 | exact P17 | exact P18 | exact P19 | exact P20 | exact P21 | exact P22 | exact P23)) | (apply Part.flat; simp only [List.cons_append, List.nil_append]) | (apply Part.cons; (first | exact P0 | exact P1 | exact P2 | exact P3 | exact P4 | exact P5 | exact P6 | exact P7 | exact P8 | exact P9 | exact P10 | exact P11 | exact P12 | exact P13 | exact P14 | exact P15 | exact P16 | exact P17 | exact P18 | exact P19 | exact P20 | exact P21 | exact P22 | exact P23)) | (apply Part.nilc))) ?_)
                                    rintro v post H' ⟨rfl, hhp, sgp, hkp, hM, rfl⟩ hH
                                    try simp only [List.cons_append, List.nil_append] at hH
                                    subst hH
                                    replace hk := hk.trans hkp
                                    refine SPL_nil ?_
                                    refine inBlockP_n ?_
                                    refine bodyP_end (H' := [sgp]) (Res0 rfl) (by repeat (first | exact Part.nil _ | (apply Part.cons; with_reducible (first | exact P0 | exact P1 | exact P2 | exact P3 | exact P4 | exact P5 | exact P6 | exact P7 | exact P8 | exact P9 | exact P10 | exact P11 | exact P12 | exact P13 | exact P14 | exact P15 | exact P16 | exact P17 | exact P18 | exact P19 | exact P20 | exact P21 | exact P22 | exact P23)) | (apply Part.flat; simp only [List.cons_append, List.nil_append]) | (apply Part.cons; (first | exact P0 | exact P1 | exact P2 | exact P3 | exact P4 | exact P5 | exact P6 | exact P7 | exact P8 | exact P9 | exact P10 | exact P11 | exact P12 | exact P13 | exact P14 | exact P15 | exact P16 | exact P17 | exact P18 | exact P19 | exact P20 | exact P21 | exact P22 | exact P23)) | (apply Part.nilc))) ?_
                                    injection hP with hP
                                    subst hP
                                    exact ⟨(), _, rfl, rfl, _, _, hk, hM, rfl⟩
                                intro h51_0
                                first | rw [if_neg h51_0] at hP | rw [if_pos (Decidable.not_not.1 h51_0)] at hP | skip
                                as_aux_lemma =>
                                  refine SPL_y (y_assign rfl) rfl ?_
                                  refine SPL_nil ?_
                                  refine thenP_n ?_
                                  refine SP_cond_f rfl ?_
                                  refine SP_seq ?_
                                  refine SP_region ?_
                                  refine SPL_if (y_eql rfl rfl) rfl ?_ ?_
                                  · intro h54_0
                                    first | rw [if_pos h54_0] at hP | rw [if_neg h54_0] at hP | skip
                                    as_aux_lemma =>
                                      refine SPL_y (y_assign rfl) rfl ?_
                                      refine SPL_nil ?_
                                      refine thenP_n ?_
                                      refine SP_cond_t rfl ?_
                                      refine SP_region ?_
                                      refine SPL_y (y_move rfl) rfl ?_
                                      refine SPL_y (y_move rfl) rfl ?_
                                      refine SPL_y (y_move rfl) rfl ?_
                                      refine SPL_y (y_nil rfl) rfl ?_
                                      refine SPL_y (y_fa fld_331_2 rfl) rfl ?_
                                      refine SPL_y (y_load Tryz.isAgg3 rfl (by repeat (first | exact (hM.frF hf hg hq rfl) | apply Cell.tail))) rfl ?_
                                      refine SPL_y (y_move rfl) rfl ?_
                                      refine SPL_y (y_add rfl rfl (by omega)) rfl ?_
                                      unfold okU at hP
                                      obtain ⟨m55, hq55, hP⟩ := bnd1 hP
                                      refine SPL_one rfl (SP1_call (vm_closeFrom b ph hh hq55 _ hM) Tryz.call258 rfl rfl (by repeat (first | exact Part.nil _ | (apply Part.cons; with_reducible (first | exact P0 | exact P1 | exact P2 | exact P3 | exact P4 | exact P5 | exact P6 | exact P7 | exact P8 | exact P9 | exact P10 | exact P11 | exact P12 | exact P13 | exact P14 | exact P15 | exact P16 | exact P17 | exact P18 | exact P19 | exact P20 | exact P21 | exact P22 | exact P23)) | (apply Part.flat; simp only [List.cons_append, List.nil_append]) | (apply Part.cons; (first | exact P0 | exact P1 | exact P2 | exact P3 | exact P4 | exact P5 | exact P6 | exact P7 | exact P8 | exact P9 | exact P10 | exact P11 | exact P12 | exact P13 | exact P14 | exact P15 | exact P16 | exact P17 | exact P18 | exact P19 | exact P20 | exact P21 | exact P22 | exact P23)) | (apply Part.nilc))) ?_)
                                      rintro v post H' ⟨rfl, sgp, hM, rfl⟩ hH
                                      try simp only [List.cons_append, List.nil_append] at hH
                                      subst hH
                                      refine SPL_nil ?_
                                      refine inBlockP_n ?_
                                      refine bodyP_end (H' := [sgp]) (Res0 rfl) (by repeat (first | exact Part.nil _ | (apply Part.cons; with_reducible (first | exact P0 | exact P1 | exact P2 | exact P3 | exact P4 | exact P5 | exact P6 | exact P7 | exact P8 | exact P9 | exact P10 | exact P11 | exact P12 | exact P13 | exact P14 | exact P15 | exact P16 | exact P17 | exact P18 | exact P19 | exact P20 | exact P21 | exact P22 | exact P23)) | (apply Part.flat; simp only [List.cons_append, List.nil_append]) | (apply Part.cons; (first | exact P0 | exact P1 | exact P2 | exact P3 | exact P4 | exact P5 | exact P6 | exact P7 | exact P8 | exact P9 | exact P10 | exact P11 | exact P12 | exact P13 | exact P14 | exact P15 | exact P16 | exact P17 | exact P18 | exact P19 | exact P20 | exact P21 | exact P22 | exact P23)) | (apply Part.nilc))) ?_
                                      injection hP with hP
                                      subst hP
                                      exact ⟨(), _, rfl, rfl, _, _, hk, hM, rfl⟩
                                  intro h54_0
                                  first | rw [if_neg h54_0] at hP | rw [if_pos (Decidable.not_not.1 h54_0)] at hP | skip
                                  as_aux_lemma =>
                                    refine SPL_y (y_assign rfl) rfl ?_
                                    refine SPL_nil ?_
                                    refine thenP_n ?_
                                    refine SP_cond_f rfl ?_
                                    refine SP_seq ?_
                                    refine SP_seq ?_
                                    refine SP_region ?_
                                    refine SPL_if (y_eql rfl rfl) rfl ?_ ?_
                                    · intro h56_0
                                      first | rw [if_pos h56_0] at hP | rw [if_neg h56_0] at hP | skip
                                      as_aux_lemma =>
                                        refine SPL_y (y_assign rfl) rfl ?_
                                        refine SPL_nil ?_
                                        refine thenP_n ?_
                                        refine SP_cond_t rfl ?_
                                        refine SP_skip ?_
                                        refine thenP_n ?_
                                        refine SP_cond_t rfl ?_
                                        have hxs : x + 4 ≤ p.nslots := Decidable.byContradiction fun q => by rw [if_neg q] at hP; cases hP
                                        rw [if_pos hxs] at hP
                                        have hslot : ((slotI f x : Nat) : Int) = f.base + x := by unfold slotI; omega
                                        obtain ⟨sv, hsv⟩ : ∃ v, getI t.stack f.base = some v := getI_lt (by omega) (by omega)
                                        obtain ⟨sq, hsa, hsc⟩ := hstk _ _ hsv
                                        have hwa1 : wa = some ⟨sq, 0 + f.base.toNat * 3, none⟩ := by rw [hwa, hsa, winA_some (by omega)]
                                        subst hwa1
                                        refine SP_region ?_
                                        refine SPL_y (y_move rfl) rfl ?_
                                        refine SPL_y (y_move rfl) rfl ?_
                                        refine SPL_y (y_move rfl) rfl ?_
                                        refine SPL_y (y_move rfl) rfl ?_
                                        refine SPL_y (y_move rfl) rfl ?_
                                        refine SPL_y (y_add rfl rfl (by omega)) rfl ?_
                                        refine SPL_y (y_win (a := some ⟨sq, 0 + f.base.toNat * 3, none⟩) (.inr ⟨sq, _, rfl⟩) Tryz.underlying90 Tryz.sizeOf42 rfl rfl rfl (by omega)) rfl ?_
                                        rw [winA_some (by omega), show 0 + f.base.toNat * 3 + x.toNat * 3 = 0 + slotI f x * 3 from by unfold slotI; omega, show (x + 4).toNat - x.toNat = 4 from by omega]
                                        refine SPL_y (y_move rfl) rfl ?_
                                        refine SPL_one rfl (SP1_callp (vm_forOp hN b ph hh hg hsa (by unfold slotI; omega) hP _ hM) Tryz.call296 rfl rfl (by repeat (first | exact Part.nil _ | (apply Part.cons; with_reducible (first | exact P0 | exact P1 | exact P2 | exact P3 | exact P4 | exact P5 | exact P6 | exact P7 | exact P8 | exact P9 | exact P10 | exact P11 | exact P12 | exact P13 | exact P14 | exact P15 | exact P16 | exact P17 | exact P18 | exact P19 | exact P20 | exact P21 | exact P22 | exact P23)) | (apply Part.flat; simp only [List.cons_append, List.nil_append]) | (apply Part.cons; (first | exact P0 | exact P1 | exact P2 | exact P3 | exact P4 | exact P5 | exact P6 | exact P7 | exact P8 | exact P9 | exact P10 | exact P11 | exact P12 | exact P13 | exact P14 | exact P15 | exact P16 | exact P17 | exact P18 | exact P19 | exact P20 | exact P21 | exact P22 | exact P23)) | (apply Part.nilc))) ?_ ?_)
                                        · rintro c post H' ⟨ex, hhx, sgx, rfl, rfl, hkx, hMx, rfl⟩ hH
                                          try simp only [List.cons_append, List.nil_append] at hH
                                          subst hH
                                          refine inBlockP_panic (bodyP_panic (H' := [sgx, escS ex]) (by repeat (first | exact Part.nil _ | (apply Part.cons; with_reducible (first | exact P0 | exact P1 | exact P2 | exact P3 | exact P4 | exact P5 | exact P6 | exact P7 | exact P8 | exact P9 | exact P10 | exact P11 | exact P12 | exact P13 | exact P14 | exact P15 | exact P16 | exact P17 | exact P18 | exact P19 | exact P20 | exact P21 | exact P22 | exact P23)) | (apply Part.flat; simp only [List.cons_append, List.nil_append]) | (apply Part.cons; (first | exact P0 | exact P1 | exact P2 | exact P3 | exact P4 | exact P5 | exact P6 | exact P7 | exact P8 | exact P9 | exact P10 | exact P11 | exact P12 | exact P13 | exact P14 | exact P15 | exact P16 | exact P17 | exact P18 | exact P19 | exact P20 | exact P21 | exact P22 | exact P23)) | (apply Part.nilc))) ?_)
                                          exact ⟨ex, hhx, sgx, rfl, rfl, hk.trans hkx, hMx, rfl⟩
                                        rintro v post H' ⟨al, ml, rfl, rfl, hhl, sgp, hkl, hM, rfl⟩ hH
                                        try simp only [List.cons_append, List.nil_append] at hH
                                        subst hH
                                        replace hk := hk.trans hkl
                                        refine SPL_nil ?_
                                        refine inBlockP_n ?_
                                        refine bodyP_end (H' := [sgp]) (Res0 rfl) (by repeat (first | exact Part.nil _ | (apply Part.cons; with_reducible (first | exact P0 | exact P1 | exact P2 | exact P3 | exact P4 | exact P5 | exact P6 | exact P7 | exact P8 | exact P9 | exact P10 | exact P11 | exact P12 | exact P13 | exact P14 | exact P15 | exact P16 | exact P17 | exact P18 | exact P19 | exact P20 | exact P21 | exact P22 | exact P23)) | (apply Part.flat; simp only [List.cons_append, List.nil_append]) | (apply Part.cons; (first | exact P0 | exact P1 | exact P2 | exact P3 | exact P4 | exact P5 | exact P6 | exact P7 | exact P8 | exact P9 | exact P10 | exact P11 | exact P12 | exact P13 | exact P14 | exact P15 | exact P16 | exact P17 | exact P18 | exact P19 | exact P20 | exact P21 | exact P22 | exact P23)) | (apply Part.nilc))) ?_
                                        exact ⟨al, _, rfl, rfl, _, _, hk, hM, rfl⟩
                                    intro h56_0
                                    first | rw [if_neg h56_0] at hP | rw [if_pos (Decidable.not_not.1 h56_0)] at hP | skip
                                    as_aux_lemma =>
                                      refine SPL_y (y_assign rfl) rfl ?_
                                      refine SPL_nil ?_
                                      refine thenP_n ?_
                                      refine SP_cond_f rfl ?_
                                      refine SP_seq ?_
                                      refine SP_region ?_
                                      refine SPL_if (y_eql rfl rfl) rfl ?_ ?_
                                      · intro h57_0
                                        first | rw [if_pos h57_0] at hP | rw [if_neg h57_0] at hP | skip
                                        as_aux_lemma =>
                                          refine SPL_y (y_assign rfl) rfl ?_
                                          refine SPL_nil ?_
                                          refine thenP_n ?_
                                          refine SP_cond_t rfl ?_
                                          refine SP_skip ?_
                                          refine thenP_n ?_
                                          refine SP_cond_t rfl ?_
                                          have hxs : x + 4 ≤ p.nslots := Decidable.byContradiction fun q => by rw [if_neg q] at hP; cases hP
                                          rw [if_pos hxs] at hP
                                          have hslot : ((slotI f x : Nat) : Int) = f.base + x := by unfold slotI; omega
                                          obtain ⟨sv, hsv⟩ : ∃ v, getI t.stack f.base = some v := getI_lt (by omega) (by omega)
                                          obtain ⟨sq, hsa, hsc⟩ := hstk _ _ hsv
                                          have hwa1 : wa = some ⟨sq, 0 + f.base.toNat * 3, none⟩ := by rw [hwa, hsa, winA_some (by omega)]
                                          subst hwa1
                                          refine SP_region ?_
                                          refine SPL_y (y_move rfl) rfl ?_
                                          refine SPL_y (y_move rfl) rfl ?_
                                          refine SPL_y (y_move rfl) rfl ?_
                                          refine SPL_y (y_move rfl) rfl ?_
                                          refine SPL_y (y_move rfl) rfl ?_
                                          refine SPL_y (y_add rfl rfl (by omega)) rfl ?_
                                          refine SPL_y (y_win (a := some ⟨sq, 0 + f.base.toNat * 3, none⟩) (.inr ⟨sq, _, rfl⟩) Tryz.underlying90 Tryz.sizeOf42 rfl rfl rfl (by omega)) rfl ?_
                                          rw [winA_some (by omega), show 0 + f.base.toNat * 3 + x.toNat * 3 = 0 + slotI f x * 3 from by unfold slotI; omega, show (x + 4).toNat - x.toNat = 4 from by omega]
                                          refine SPL_y (y_move rfl) rfl ?_
                                          refine SPL_one rfl (SP1_callp (vm_forOp hN b ph hh hg hsa (by unfold slotI; omega) hP _ hM) Tryz.call296 rfl rfl (by repeat (first | exact Part.nil _ | (apply Part.cons; with_reducible (first | exact P0 | exact P1 | exact P2 | exact P3 | exact P4 | exact P5 | exact P6 | exact P7 | exact P8 | exact P9 | exact P10 | exact P11 | exact P12 | exact P13 | exact P14 | exact P15 | exact P16 | exact P17 | exact P18 | exact P19 | exact P20 | exact P21 | exact P22 | exact P23)) | (apply Part.flat; simp only [List.cons_append, List.nil_append]) | (apply Part.cons; (first | exact P0 | exact P1 | exact P2 | exact P3 | exact P4 | exact P5 | exact P6 | exact P7 | exact P8 | exact P9 | exact P10 | exact P11 | exact P12 | exact P13 | exact P14 | exact P15 | exact P16 | exact P17 | exact P18 | exact P19 | exact P20 | exact P21 | exact P22 | exact P23)) | (apply Part.nilc))) ?_ ?_)
                                          · rintro c post H' ⟨ex, hhx, sgx, rfl, rfl, hkx, hMx, rfl⟩ hH
                                            try simp only [List.cons_append, List.nil_append] at hH
                                            subst hH
                                            refine inBlockP_panic (bodyP_panic (H' := [sgx, escS ex]) (by repeat (first | exact Part.nil _ | (apply Part.cons; with_reducible (first | exact P0 | exact P1 | exact P2 | exact P3 | exact P4 | exact P5 | exact P6 | exact P7 | exact P8 | exact P9 | exact P10 | exact P11 | exact P12 | exact P13 | exact P14 | exact P15 | exact P16 | exact P17 | exact P18 | exact P19 | exact P20 | exact P21 | exact P22 | exact P23)) | (apply Part.flat; simp only [List.cons_append, List.nil_append]) | (apply Part.cons; (first | exact P0 | exact P1 | exact P2 | exact P3 | exact P4 | exact P5 | exact P6 | exact P7 | exact P8 | exact P9 | exact P10 | exact P11 | exact P12 | exact P13 | exact P14 | exact P15 | exact P16 | exact P17 | exact P18 | exact P19 | exact P20 | exact P21 | exact P22 | exact P23)) | (apply Part.nilc))) ?_)
                                            exact ⟨ex, hhx, sgx, rfl, rfl, hk.trans hkx, hMx, rfl⟩
                                          rintro v post H' ⟨al, ml, rfl, rfl, hhl, sgp, hkl, hM, rfl⟩ hH
                                          try simp only [List.cons_append, List.nil_append] at hH
                                          subst hH
                                          replace hk := hk.trans hkl
                                          refine SPL_nil ?_
                                          refine inBlockP_n ?_
                                          refine bodyP_end (H' := [sgp]) (Res0 rfl) (by repeat (first | exact Part.nil _ | (apply Part.cons; with_reducible (first | exact P0 | exact P1 | exact P2 | exact P3 | exact P4 | exact P5 | exact P6 | exact P7 | exact P8 | exact P9 | exact P10 | exact P11 | exact P12 | exact P13 | exact P14 | exact P15 | exact P16 | exact P17 | exact P18 | exact P19 | exact P20 | exact P21 | exact P22 | exact P23)) | (apply Part.flat; simp only [List.cons_append, List.nil_append]) | (apply Part.cons; (first | exact P0 | exact P1 | exact P2 | exact P3 | exact P4 | exact P5 | exact P6 | exact P7 | exact P8 | exact P9 | exact P10 | exact P11 | exact P12 | exact P13 | exact P14 | exact P15 | exact P16 | exact P17 | exact P18 | exact P19 | exact P20 | exact P21 | exact P22 | exact P23)) | (apply Part.nilc))) ?_
                                          exact ⟨al, _, rfl, rfl, _, _, hk, hM, rfl⟩
                                      intro h57_0
                                      first | rw [if_neg h57_0] at hP | rw [if_pos (Decidable.not_not.1 h57_0)] at hP | skip
                                      as_aux_lemma =>
                                        refine SPL_y (y_assign rfl) rfl ?_
                                        refine SPL_nil ?_
                                        refine thenP_n ?_
                                        refine SP_cond_f rfl ?_
                                        refine SP_region ?_
                                        refine SPL_ifn (y_eql rfl rfl) rfl ?_ ?_
                                        · intro h58_0
                                          first | rw [if_neg h58_0] at hP | rw [if_pos (Decidable.not_not.1 h58_0)] at hP | skip
                                          as_aux_lemma =>
                                            refine SPL_y (y_assign rfl) rfl ?_
                                            refine SPL_nil ?_
                                            refine thenP_n ?_
                                            refine SP_cond_f rfl ?_
                                            refine SP_region ?_
                                            refine SPL_y (y_move rfl) rfl ?_
                                            refine SPL_y (y_move rfl) rfl ?_
                                            refine SPL_y (y_move rfl) rfl ?_
                                            refine SPL_y (y_move rfl) rfl ?_
                                            refine SPL_one rfl (SP1_callp (vm_oper b ph hh hP _ hM) Tryz.call297 rfl rfl (by repeat (first | exact Part.nil _ | (apply Part.cons; with_reducible (first | exact P0 | exact P1 | exact P2 | exact P3 | exact P4 | exact P5 | exact P6 | exact P7 | exact P8 | exact P9 | exact P10 | exact P11 | exact P12 | exact P13 | exact P14 | exact P15 | exact P16 | exact P17 | exact P18 | exact P19 | exact P20 | exact P21 | exact P22 | exact P23)) | (apply Part.flat; simp only [List.cons_append, List.nil_append]) | (apply Part.cons; (first | exact P0 | exact P1 | exact P2 | exact P3 | exact P4 | exact P5 | exact P6 | exact P7 | exact P8 | exact P9 | exact P10 | exact P11 | exact P12 | exact P13 | exact P14 | exact P15 | exact P16 | exact P17 | exact P18 | exact P19 | exact P20 | exact P21 | exact P22 | exact P23)) | (apply Part.nilc))) ?_ ?_)
                                            · rintro c post H' ⟨ex, hhx, sgx, rfl, rfl, hkx, hMx, rfl⟩ hH
                                              try simp only [List.cons_append, List.nil_append] at hH
                                              subst hH
                                              refine inBlockP_panic (bodyP_panic (H' := [sgx, escS ex]) (by repeat (first | exact Part.nil _ | (apply Part.cons; with_reducible (first | exact P0 | exact P1 | exact P2 | exact P3 | exact P4 | exact P5 | exact P6 | exact P7 | exact P8 | exact P9 | exact P10 | exact P11 | exact P12 | exact P13 | exact P14 | exact P15 | exact P16 | exact P17 | exact P18 | exact P19 | exact P20 | exact P21 | exact P22 | exact P23)) | (apply Part.flat; simp only [List.cons_append, List.nil_append]) | (apply Part.cons; (first | exact P0 | exact P1 | exact P2 | exact P3 | exact P4 | exact P5 | exact P6 | exact P7 | exact P8 | exact P9 | exact P10 | exact P11 | exact P12 | exact P13 | exact P14 | exact P15 | exact P16 | exact P17 | exact P18 | exact P19 | exact P20 | exact P21 | exact P22 | exact P23)) | (apply Part.nilc))) ?_)
                                              exact ⟨ex, hhx, sgx, rfl, rfl, hk.trans hkx, hMx, rfl⟩
                                            rintro v post H' ⟨al, ml, rfl, rfl, hhl, sgp, hkl, hM, rfl⟩ hH
                                            try simp only [List.cons_append, List.nil_append] at hH
                                            subst hH
                                            replace hk := hk.trans hkl
                                            refine SPL_nil ?_
                                            refine inBlockP_n ?_
                                            refine bodyP_end (H' := [sgp]) (Res0 rfl) (by repeat (first | exact Part.nil _ | (apply Part.cons; with_reducible (first | exact P0 | exact P1 | exact P2 | exact P3 | exact P4 | exact P5 | exact P6 | exact P7 | exact P8 | exact P9 | exact P10 | exact P11 | exact P12 | exact P13 | exact P14 | exact P15 | exact P16 | exact P17 | exact P18 | exact P19 | exact P20 | exact P21 | exact P22 | exact P23)) | (apply Part.flat; simp only [List.cons_append, List.nil_append]) | (apply Part.cons; (first | exact P0 | exact P1 | exact P2 | exact P3 | exact P4 | exact P5 | exact P6 | exact P7 | exact P8 | exact P9 | exact P10 | exact P11 | exact P12 | exact P13 | exact P14 | exact P15 | exact P16 | exact P17 | exact P18 | exact P19 | exact P20 | exact P21 | exact P22 | exact P23)) | (apply Part.nilc))) ?_
                                            exact ⟨al, _, rfl, rfl, _, _, hk, hM, rfl⟩
                                        intro h58_0
                                        first | rw [if_pos h58_0] at hP | rw [if_neg h58_0] at hP | skip
                                        as_aux_lemma =>
                                          refine SPL_y (y_assign rfl) rfl ?_
                                          refine SPL_nil ?_
                                          refine thenP_n ?_
                                          refine SP_cond_t rfl ?_
                                          have hxs : x + 4 ≤ p.nslots := Decidable.byContradiction fun q => by rw [if_neg q] at hP; cases hP
                                          rw [if_pos hxs] at hP
                                          have hslot : ((slotI f x : Nat) : Int) = f.base + x := by unfold slotI; omega
                                          obtain ⟨sv, hsv⟩ : ∃ v, getI t.stack f.base = some v := getI_lt (by omega) (by omega)
                                          obtain ⟨sq, hsa, hsc⟩ := hstk _ _ hsv
                                          have hwa1 : wa = some ⟨sq, 0 + f.base.toNat * 3, none⟩ := by rw [hwa, hsa, winA_some (by omega)]
                                          subst hwa1
                                          refine SP_region ?_
                                          refine SPL_y (y_move rfl) rfl ?_
                                          refine SPL_y (y_move rfl) rfl ?_
                                          refine SPL_y (y_move rfl) rfl ?_
                                          refine SPL_y (y_move rfl) rfl ?_
                                          refine SPL_y (y_move rfl) rfl ?_
                                          refine SPL_y (y_add rfl rfl (by omega)) rfl ?_
                                          refine SPL_y (y_win (a := some ⟨sq, 0 + f.base.toNat * 3, none⟩) (.inr ⟨sq, _, rfl⟩) Tryz.underlying90 Tryz.sizeOf42 rfl rfl rfl (by omega)) rfl ?_
                                          rw [winA_some (by omega), show 0 + f.base.toNat * 3 + x.toNat * 3 = 0 + slotI f x * 3 from by unfold slotI; omega, show (x + 4).toNat - x.toNat = 4 from by omega]
                                          refine SPL_y (y_move rfl) rfl ?_
                                          refine SPL_one rfl (SP1_callp (vm_forOp hN b ph hh hg hsa (by unfold slotI; omega) hP _ hM) Tryz.call296 rfl rfl (by repeat (first | exact Part.nil _ | (apply Part.cons; with_reducible (first | exact P0 | exact P1 | exact P2 | exact P3 | exact P4 | exact P5 | exact P6 | exact P7 | exact P8 | exact P9 | exact P10 | exact P11 | exact P12 | exact P13 | exact P14 | exact P15 | exact P16 | exact P17 | exact P18 | exact P19 | exact P20 | exact P21 | exact P22 | exact P23)) | (apply Part.flat; simp only [List.cons_append, List.nil_append]) | (apply Part.cons; (first | exact P0 | exact P1 | exact P2 | exact P3 | exact P4 | exact P5 | exact P6 | exact P7 | exact P8 | exact P9 | exact P10 | exact P11 | exact P12 | exact P13 | exact P14 | exact P15 | exact P16 | exact P17 | exact P18 | exact P19 | exact P20 | exact P21 | exact P22 | exact P23)) | (apply Part.nilc))) ?_ ?_)
                                          · rintro c post H' ⟨ex, hhx, sgx, rfl, rfl, hkx, hMx, rfl⟩ hH
                                            try simp only [List.cons_append, List.nil_append] at hH
                                            subst hH
                                            refine inBlockP_panic (bodyP_panic (H' := [sgx, escS ex]) (by repeat (first | exact Part.nil _ | (apply Part.cons; with_reducible (first | exact P0 | exact P1 | exact P2 | exact P3 | exact P4 | exact P5 | exact P6 | exact P7 | exact P8 | exact P9 | exact P10 | exact P11 | exact P12 | exact P13 | exact P14 | exact P15 | exact P16 | exact P17 | exact P18 | exact P19 | exact P20 | exact P21 | exact P22 | exact P23)) | (apply Part.flat; simp only [List.cons_append, List.nil_append]) | (apply Part.cons; (first | exact P0 | exact P1 | exact P2 | exact P3 | exact P4 | exact P5 | exact P6 | exact P7 | exact P8 | exact P9 | exact P10 | exact P11 | exact P12 | exact P13 | exact P14 | exact P15 | exact P16 | exact P17 | exact P18 | exact P19 | exact P20 | exact P21 | exact P22 | exact P23)) | (apply Part.nilc))) ?_)
                                            exact ⟨ex, hhx, sgx, rfl, rfl, hk.trans hkx, hMx, rfl⟩
                                          rintro v post H' ⟨al, ml, rfl, rfl, hhl, sgp, hkl, hM, rfl⟩ hH
                                          try simp only [List.cons_append, List.nil_append] at hH
                                          subst hH
                                          replace hk := hk.trans hkl
                                          refine SPL_nil ?_
                                          refine inBlockP_n ?_
                                          refine bodyP_end (H' := [sgp]) (Res0 rfl) (by repeat (first | exact Part.nil _ | (apply Part.cons; with_reducible (first | exact P0 | exact P1 | exact P2 | exact P3 | exact P4 | exact P5 | exact P6 | exact P7 | exact P8 | exact P9 | exact P10 | exact P11 | exact P12 | exact P13 | exact P14 | exact P15 | exact P16 | exact P17 | exact P18 | exact P19 | exact P20 | exact P21 | exact P22 | exact P23)) | (apply Part.flat; simp only [List.cons_append, List.nil_append]) | (apply Part.cons; (first | exact P0 | exact P1 | exact P2 | exact P3 | exact P4 | exact P5 | exact P6 | exact P7 | exact P8 | exact P9 | exact P10 | exact P11 | exact P12 | exact P13 | exact P14 | exact P15 | exact P16 | exact P17 | exact P18 | exact P19 | exact P20 | exact P21 | exact P22 | exact P23)) | (apply Part.nilc))) ?_
                                          exact ⟨al, _, rfl, rfl, _, _, hk, hM, rfl⟩

end Go.Sl
