/- Walks: package vm, return and unwind (made by program out of short notes) -/
import Derived.Test.Qxb6500573aGreatDoorBC
import Derived.Test.Qxb6500573aGreatDoorWVmQ
namespace Go.Sl
open Go Go.Wl Go.Proofs
set_option maxRecDepth 100000
set_option linter.unusedVariables false
set_option linter.unusedSimpArgs false
theorem fld_324_0 : Fld Tryz.prog 324 0 0 := fld_mk (z := 0) Tryz.underlying324 rfl rfl Tryz.sizeOf5
theorem fld_324_1 : Fld Tryz.prog 324 1 1 := fld_mk (z := 0) Tryz.underlying324 rfl rfl Tryz.sizeOf97
theorem wrap8 {n : Int} (h : -128 ≤ n ∧ n ≤ 127) : IntKind.i8.wrap n = n := by
  have e : IntKind.i8.wrap n = if 128 ≤ n % 256 then n % 256 - 256 else n % 256 := by simp [IntKind.wrap, IntKind.bits, IntKind.signed]
  rw [e]
  split <;> omega
theorem y_beqB {P : Program} {n : Nat} {ty : TypeId} {ρ : Env} {H : Hp} {t u : TypeId} {x y : Operand} {a c : Bool} (ht : P.underlying t = some .bool) (hx : ev ρ x = some (.bool a)) (hy : ev ρ y = some (.bool c)) : Yo P n (.binOp .eql t x y u) ty ρ H (.bool (a == c)) :=
  .mk fun _ _ hf w => by
    have he : ∀ d : Nat, (Op.equalIn (d + 1) t (.bool a) (.bool c)).run P w = .ok (a == c) w := fun d => by
      simp [Op.equalIn, run_underlying ht]
    have he' : (Op.equal t (.bool a) (.bool c)).run P w = .ok (a == c) w := he 9999
    simp [runs, execOp, hf.ev hx, hf.ev hy, eqGuard, binOp, he']
set_option maxHeartbeats 16000000 in
theorem vm_loop (hN : NextSpec) (b : VB) (ph : PH) (hh : List TH) {m : VM} {o : Out Ev} {th : Nat} {n : Nat} (hP : loopM th n m = some o) (seg : Seg) (hM : isVM b ph hh m seg) : Spec Tryz.prog 213 [pt b.vb, I th, tp b th] [seg] (outX b ph evA o) := by
  obtain ⟨hh0, hhe⟩ : ∃ h, h = hh := ⟨_, rfl⟩
  refine Spec_enter Tryz.func213 rfl Tryz.ntmps213 rfl ?_
  show SP _ _ _ _ _ [(0, _), (1, _), (2, _)] _
  refine SP_seq ?_
  refine SP_region ?_
  refine SPL_one rfl (SP1_alloc Tryz.zeroValue184 rfl rfl ?_)
  intro b6
  refine SPL_nil ?_
  refine thenP_n ?_
  refine SP_scope ?_
  refine SP_seq ?_
  refine SP_region ?_
  refine SPL_one rfl (SP1_alloc Tryz.zeroValue184 rfl rfl ?_)
  intro b7
  refine SPL_nil ?_
  refine thenP_n ?_
  refine SP_seq ?_
  refine SP_label ?_
  refine thenP_n ?_
  refine SP_seq ?_
  refine SP_block ?_
  refine SP_loop (G := Nat × VM × List TH × Seg × Ev) (fun g => g.1) (fun _ => [(0, pt b.vb), (1, I th), (2, tp b th), (6, pt b6), (7, pt b7)]) (fun g => [g.2.2.2.1, blk b6 184 [I 0, I 0, I 0, I 0, .int .u64 0, S [], I 0, .int .u64 0, S []], blk b7 184 (evV g.2.2.2.2)]) (fun g => loopM th g.1 g.2.1 = some o ∧ isVM b ph g.2.2.1 g.2.1 g.2.2.2.1) ((n, m, hh, seg, ev0)) (⟨hP, hM⟩) (by repeat (first | exact Sub.nil _ | refine Sub.cons rfl ?_)) (by repeat (first | exact Part.nil _ | (apply Part.cons; with_reducible (first | exact P0 | exact P1 | exact P2 | exact P3 | exact P4 | exact P5 | exact P6 | exact P7 | exact P8 | exact P9 | exact P10 | exact P11 | exact P12 | exact P13 | exact P14 | exact P15 | exact P16 | exact P17 | exact P18 | exact P19 | exact P20 | exact P21 | exact P22 | exact P23)) | (apply Part.flat; simp only [List.cons_append, List.nil_append]) | (apply Part.cons; (first | exact P0 | exact P1 | exact P2 | exact P3 | exact P4 | exact P5 | exact P6 | exact P7 | exact P8 | exact P9 | exact P10 | exact P11 | exact P12 | exact P13 | exact P14 | exact P15 | exact P16 | exact P17 | exact P18 | exact P19 | exact P20 | exact P21 | exact P22 | exact P23)) | (apply Part.nilc))) ?_
  rintro ⟨n, m, hh, seg, e⟩ ⟨hP, hM⟩
  dsimp only at hP hM ⊢
  obtain ⟨k, rfl⟩ : ∃ k, n = k + 1 := by
    cases n with
    | zero => cases hP
    | succ k => exact ⟨k, rfl⟩
  unfold loopM at hP
  obtain ⟨o1, ho1, hP⟩ := bndO hP
  unfold vstepL getT at ho1
  obtain ⟨t, ht, ho1⟩ := bnd1 ho1
  have hl : 1 ≤ t.frames.length ∧ t.frames.length ≤ 1000000 := Decidable.byContradiction fun q => by rw [if_neg q] at ho1; cases ho1
  rw [if_pos hl] at ho1
  obtain ⟨i, hi⟩ : ∃ i, i = t.frames.length - 1 := ⟨_, rfl⟩
  rw [← hi] at ho1
  obtain ⟨f, hf, ho1⟩ := bnd1 ho1
  obtain ⟨cl, hcl, ho1⟩ := bnd1 ho1
  have hclp : 0 ≤ cl.p ∧ cl.p < 1000000 := Decidable.byContradiction fun q => by rw [if_neg q] at ho1; cases ho1
  rw [if_pos hclp] at ho1
  obtain ⟨p, hpj, ho1⟩ := bnd1 ho1
  have hpc : (0 ≤ f.pc ∧ f.pc ≤ 1000000) ∧ 0 ≤ p.code ∧ p.code ≤ 1000000 := Decidable.byContradiction fun q => by rw [if_neg q] at ho1; cases ho1
  rw [if_pos hpc] at ho1
  obtain ⟨g, oa, oc, hg, _, hrow, hst, hfrm, _⟩ := hM.thr ht
  obtain ⟨q, hq, _⟩ := hfrm _ _ (getI_nat (List.getElem?_eq_getElem (show i < t.frames.length from by omega)) (by omega))
  have hfs : ∀ H : Hp, Cell (seg :: H) b.thb (0 + th * 5 + 3) (.slice (some ⟨q, 0, none⟩) t.frames.length g.fc) := fun H => hq ▸ hrow H 3 _ rfl
  have hfv : FP hh th i (.pointer (some ⟨q, 0 + i * 5, none⟩)) := ⟨g, q, hg, hq, rfl⟩
  obtain ⟨hcb, hcl0, _, _, _⟩ := getI_some hcl
  obtain ⟨lq, lc, hcl1, hcl2⟩ := hM.clo hcl
  have hjb : cl.p.toNat < 1000000 := by omega
  have hpl := (List.getElem?_eq_some_iff.1 hpj).1
  obtain ⟨pq, hpa, _⟩ := hM.proto (i := ((cl.p.toNat : Nat) : Int)) (getI_nat hpj (by omega))
  have hpv : PP ph cl.p.toNat (.pointer (some ⟨pq, 0 + cl.p.toNat * 8, none⟩)) := ⟨pq, hpa, rfl⟩
  obtain ⟨pq', hpe, hpq⟩ := pr_at hM hpj hjb hpv
  injection hpe with hpe
  injection hpe with hpe
  injection hpe with hpe _
  subst hpe
  have hpr0 : ∀ H : Hp, Cell (seg :: H) b.vb (0 + 2) (.slice (some ⟨pq, 0, none⟩) m.pg.protos.length ph.pc) := fun H => by have := hM.protos (H := H); rw [hpa] at this; exact this
  have hbd := fun op => effectM_bd op
  unfold Bd3 at hbd
  refine SP_block ?_
  refine SP_seq ?_
  refine SP_draw 999 [(0, 0), (1, 0), (2, 0), (4, 0), (5, 0), (6, 0), (3, 1), (7, 1), (8, 0), (9, 0), (10, 0), (11, 0)] mixed (by kernel_rfl) (fun _ _ _ _ _ h => h) (Part.refl _) ?_
  refine SPO_p rfl (y_move rfl) rfl ?_
  refine SPO_p rfl (y_nil rfl) rfl ?_
  refine SPO_p rfl (y_fa fld_263_3 rfl) rfl ?_
  refine SPO_p rfl (y_move rfl) rfl ?_
  refine SPO_p rfl (y_nil rfl) rfl ?_
  refine SPO_p rfl (y_fa fld_263_3 rfl) rfl ?_
  refine SPO_h rfl (y_load Tryz.isAgg261 rfl (by repeat (first | exact (hfs _) | apply Cell.tail))) rfl ?_
  refine SPO_h rfl (y_load Tryz.isAgg261 rfl (by repeat (first | exact (hfs _) | apply Cell.tail))) rfl ?_
  refine SPO_p rfl (y_len_l Tryz.underlying261 rfl) rfl ?_
  refine SPO_p rfl (y_sub rfl rfl (by omega)) rfl ?_
  refine SPO_p rfl (y_ia Tryz.underlying261 Tryz.sizeOf331 rfl rfl (by omega)) rfl ?_
  rw [show ((t.frames.length : Int) - 1).toNat = i from by omega]
  refine SPO_p rfl (y_assign rfl) rfl ?_
  refine SPO_nil ?_
  refine thenP_n ?_
  refine SP_seq ?_
  refine SP_draw 999 [(0, 0), (1, 0), (2, 0), (4, 0), (5, 0), (6, 0), (8, 0), (9, 0), (10, 0), (3, 1), (7, 1), (11, 1), (12, 0), (13, 0), (14, 1), (15, 0), (16, 0)] mixed (by kernel_rfl) (fun _ _ _ _ _ h => h) (Part.refl _) ?_
  refine SPO_p rfl (y_move rfl) rfl ?_
  refine SPO_p rfl (y_nil rfl) rfl ?_
  refine SPO_p rfl (y_fa fld_115_2 rfl) rfl ?_
  refine SPO_p rfl (y_move rfl) rfl ?_
  refine SPO_p rfl (y_nil rfl) rfl ?_
  refine SPO_p rfl (y_fa fld_115_6 rfl) rfl ?_
  refine SPO_p rfl (y_move rfl) rfl ?_
  refine SPO_p rfl (y_nil rfl) rfl ?_
  refine SPO_p rfl (y_fa fld_331_0 rfl) rfl ?_
  refine SPO_h rfl (y_load Tryz.isAgg108 rfl (by repeat (first | exact (hpr0 _) | apply Cell.tail))) rfl ?_
  refine SPO_h rfl (y_load Tryz.isAgg111 rfl (by repeat (first | exact (hcl1 _) | apply Cell.tail))) rfl ?_
  refine SPO_h rfl (y_load Tryz.isAgg3 rfl (by repeat (first | exact (hM.frF hf hg hq rfl) | apply Cell.tail))) rfl ?_
  refine SPO_p rfl (y_ia Tryz.underlying111 Tryz.sizeOf181 rfl rfl (by omega)) rfl ?_
  refine SPO_p rfl (y_fa fld_181_0 rfl) rfl ?_
  refine SPO_h rfl (y_load Tryz.isAgg3 rfl (by repeat (first | exact ((hcl2 _).cell rfl) | apply Cell.tail))) rfl ?_
  refine SPO_p rfl (y_ia Tryz.underlying108 Tryz.sizeOf252 rfl rfl (by omega)) rfl ?_
  refine SPO_p rfl (y_assign rfl) rfl ?_
  refine SPO_nil ?_
  refine thenP_n ?_
  refine SP_seq ?_
  refine SP_seq ?_
  refine SP_draw 999 [(0, 0), (1, 0), (2, 0), (4, 0), (5, 0), (6, 0), (3, 1), (7, 1), (8, 0)] mixed (by kernel_rfl) (fun _ _ _ _ _ h => h) (Part.refl _) ?_
  refine SPO_p rfl (y_move rfl) rfl ?_
  refine SPO_p rfl (y_nil rfl) rfl ?_
  refine SPO_p rfl (y_fa fld_331_1 rfl) rfl ?_
  refine SPO_p rfl (y_move rfl) rfl ?_
  refine SPO_p rfl (y_nil rfl) rfl ?_
  refine SPO_p rfl (y_fa fld_252_7 rfl) rfl ?_
  refine SPO_h rfl (y_load Tryz.isAgg3 rfl (by repeat (first | exact (hM.frF hf hg hq rfl) | apply Cell.tail))) rfl ?_
  refine SPO_h rfl (y_load Tryz.isAgg3 rfl (by repeat (first | exact ((hpq _).cell rfl) | apply Cell.tail))) rfl ?_
  refine SPO_if rfl (y_geq rfl rfl) rfl ?_ ?_
  · intro h4_8
    first | rw [if_pos h4_8] at ho1 | rw [if_neg h4_8] at ho1 | skip
    as_aux_lemma =>
      refine SPO_nil ?_
      refine thenP_n ?_
      refine SP_cond_t rfl ?_
      refine SP_region ?_
      refine SPL_one rfl (SP1_callp (vm_stop 11) Tryz.call260 rfl rfl (by repeat (first | exact Part.nil _ | (apply Part.cons; with_reducible (first | exact P0 | exact P1 | exact P2 | exact P3 | exact P4 | exact P5 | exact P6 | exact P7 | exact P8 | exact P9 | exact P10 | exact P11 | exact P12 | exact P13 | exact P14 | exact P15 | exact P16 | exact P17 | exact P18 | exact P19 | exact P20 | exact P21 | exact P22 | exact P23)) | (apply Part.flat; simp only [List.cons_append, List.nil_append]) | (apply Part.cons; (first | exact P0 | exact P1 | exact P2 | exact P3 | exact P4 | exact P5 | exact P6 | exact P7 | exact P8 | exact P9 | exact P10 | exact P11 | exact P12 | exact P13 | exact P14 | exact P15 | exact P16 | exact P17 | exact P18 | exact P19 | exact P20 | exact P21 | exact P22 | exact P23)) | (apply Part.nilc))) ?_ ?_)
      · rintro c post H' ⟨rfl, rfl⟩ hH
        try simp only [List.cons_append, List.nil_append] at hH
        subst hH
        refine thenP_panic (inBlockP_panic (thenP_panic (inBlockP_panic (thenP_panic (noGotoP_panic (bodyP_panic (H' := [seg, []]) (by repeat (first | exact Part.nil _ | (apply Part.cons; with_reducible (first | exact P0 | exact P1 | exact P2 | exact P3 | exact P4 | exact P5 | exact P6 | exact P7 | exact P8 | exact P9 | exact P10 | exact P11 | exact P12 | exact P13 | exact P14 | exact P15 | exact P16 | exact P17 | exact P18 | exact P19 | exact P20 | exact P21 | exact P22 | exact P23)) | (apply Part.flat; simp only [List.cons_append, List.nil_append]) | (apply Part.cons; (first | exact P0 | exact P1 | exact P2 | exact P3 | exact P4 | exact P5 | exact P6 | exact P7 | exact P8 | exact P9 | exact P10 | exact P11 | exact P12 | exact P13 | exact P14 | exact P15 | exact P16 | exact P17 | exact P18 | exact P19 | exact P20 | exact P21 | exact P22 | exact P23)) | (apply Part.nilc))) ?_))))))
        injection ho1 with ho1
        subst ho1
        dsimp only [bindO] at hP
        injection hP with hP
        subst hP
        exact ⟨.trp 11 m, hh, seg, rfl, rfl, hM, rfl⟩
      rintro v post H' hF hH
      exact hF.elim
  intro h4_8
  first | rw [if_neg h4_8] at ho1 | rw [if_pos (Decidable.not_not.1 h4_8)] at ho1 | skip
  as_aux_lemma =>
    refine SPO_nil ?_
    refine thenP_n ?_
    refine SP_cond_f rfl ?_
    refine SP_skip ?_
    refine thenP_n ?_
    refine SP_seq ?_
    obtain ⟨ins, hin0, ho1⟩ := bnd1 ho1
    obtain ⟨op, x⟩ := ins
    dsimp only at ho1
    have hx : 0 ≤ x ∧ x ≤ 65535 := Decidable.byContradiction fun q => by rw [if_neg q] at ho1; cases ho1
    rw [if_pos hx] at ho1
    obtain ⟨hib, hil, _, _, _⟩ := getI_some hin0
    obtain ⟨cq, hca, hin⟩ := hM.ins hin0
    have hcd : ∀ H : Hp, Cell (seg :: H) b.vb (0 + 5) (.slice (some ⟨cq, 0, none⟩) m.pg.code.length ph.cc) := fun H => by have := hM.code (H := H); rw [hca] at this; exact this
    refine SP_draw 16 [(0, 0), (1, 0), (2, 0), (4, 0), (5, 0), (6, 0), (8, 0), (9, 0), (10, 0), (3, 1), (7, 1), (11, 1), (12, 0), (13, 0), (14, 1), (15, 2), (16, 3)] mixed (by kernel_rfl) (fun _ _ _ _ _ h => h) (Part.refl _) ?_
    refine SPO_p rfl (y_move rfl) rfl ?_
    refine SPO_p rfl (y_nil rfl) rfl ?_
    refine SPO_p rfl (y_fa fld_115_5 rfl) rfl ?_
    refine SPO_p rfl (y_move rfl) rfl ?_
    refine SPO_p rfl (y_nil rfl) rfl ?_
    refine SPO_p rfl (y_fa fld_252_6 rfl) rfl ?_
    refine SPO_p rfl (y_move rfl) rfl ?_
    refine SPO_p rfl (y_nil rfl) rfl ?_
    refine SPO_p rfl (y_fa fld_331_1 rfl) rfl ?_
    refine SPO_h rfl (y_load Tryz.isAgg110 rfl (by repeat (first | exact (hcd _) | apply Cell.tail))) rfl ?_
    refine SPO_h rfl (y_load Tryz.isAgg3 rfl (by repeat (first | exact ((hpq _).cell rfl) | apply Cell.tail))) rfl ?_
    refine SPO_h rfl (y_load Tryz.isAgg3 rfl (by repeat (first | exact (hM.frF hf hg hq rfl) | apply Cell.tail))) rfl ?_
    refine SPO_p rfl (y_add rfl rfl (by omega)) rfl ?_
    refine SPO_p rfl (y_ia Tryz.underlying110 Tryz.sizeOf324 rfl rfl (by omega)) rfl ?_
    refine SPO_h rfl (y_loads Tryz.isAgg324 Tryz.sizeOf324 rfl rfl (by repeat (first | exact (hin _) | apply Cells.tail))) rfl ?_
    refine SPO_a rfl rfl (SP1_alloc Tryz.zeroValue324 rfl rfl ?_)
    intro b10
    refine ⟨⟨_, (by repeat (first | exact Part.nil _ | (apply Part.cons; with_reducible (first | exact P0 | exact P1 | exact P2 | exact P3 | exact P4 | exact P5 | exact P6 | exact P7 | exact P8 | exact P9 | exact P10 | exact P11 | exact P12 | exact P13 | exact P14 | exact P15 | exact P16 | exact P17 | exact P18 | exact P19 | exact P20 | exact P21 | exact P22 | exact P23)) | (apply Part.flat; simp only [List.cons_append, List.nil_append]) | (apply Part.cons; (first | exact P0 | exact P1 | exact P2 | exact P3 | exact P4 | exact P5 | exact P6 | exact P7 | exact P8 | exact P9 | exact P10 | exact P11 | exact P12 | exact P13 | exact P14 | exact P15 | exact P16 | exact P17 | exact P18 | exact P19 | exact P20 | exact P21 | exact P22 | exact P23)) | (apply Part.nilc)))⟩, ?_⟩
    refine SPO_z (k := 0) rfl rfl (SP1_storeAll Tryz.sizeOf324 rfl rfl rfl rfl rfl (by first | exact U0 | exact U1 | exact U2 | exact U3 | exact U4 | exact U5 | exact U6 | exact U7 | exact U8 | exact U9 | exact U10 | exact U11 | exact U12 | exact U13 | exact U14 | exact U15 | exact U16 | exact U17 | exact U18 | exact U19 | exact U20 | exact U21 | exact U22 | exact U23) (by rfl) ?_)
    refine SPO_nil ?_
    refine thenP_n ?_
    refine SP_seq ?_
    refine SP_region ?_
    refine SPL_y (y_fa fld_324_1 rfl) rfl ?_
    refine SPL_y (y_load Tryz.isAgg97 rfl (by repeat (first | exact Cell.amid hpre rfl | exact Cell.head rfl | apply Cell.tail))) rfl ?_
    refine SPL_y (y_conv Tryz.underlying97 Tryz.underlying3 rfl (show IntKind.i64.wrap (x) = x from by rw [IntKind.wrap_i64]; omega)) rfl ?_
    refine SPL_y (y_assign rfl) rfl ?_
    refine SPL_nil ?_
    refine thenP_n ?_
    refine SP_seq ?_
    refine SP_region ?_
    refine SPL_y (y_move rfl) rfl ?_
    refine SPL_y (y_move rfl) rfl ?_
    refine SPL_y (y_move rfl) rfl ?_
    refine SPL_y (y_move rfl) rfl ?_
    refine SPL_y (y_fa fld_324_0 rfl) rfl ?_
    refine SPL_y (y_load Tryz.isAgg5 rfl (by repeat (first | exact Cell.amid hpre rfl | exact Cell.head rfl | apply Cell.tail))) rfl ?_
    refine SPL_y (y_move rfl) rfl ?_
    obtain ⟨r8, hq8, ho1⟩ := bnd1 ho1
    refine SPL_one rfl (SP1_call (vm_sound b ph hh hfv hpj hjb hpv hq8 _ hM) Tryz.call261 rfl rfl (by repeat (first | exact Part.nil _ | (apply Part.cons; with_reducible (first | exact P0 | exact P1 | exact P2 | exact P3 | exact P4 | exact P5 | exact P6 | exact P7 | exact P8 | exact P9 | exact P10 | exact P11 | exact P12 | exact P13 | exact P14 | exact P15 | exact P16 | exact P17 | exact P18 | exact P19 | exact P20 | exact P21 | exact P22 | exact P23)) | (apply Part.flat; simp only [List.cons_append, List.nil_append]) | (apply Part.cons; (first | exact P0 | exact P1 | exact P2 | exact P3 | exact P4 | exact P5 | exact P6 | exact P7 | exact P8 | exact P9 | exact P10 | exact P11 | exact P12 | exact P13 | exact P14 | exact P15 | exact P16 | exact P17 | exact P18 | exact P19 | exact P20 | exact P21 | exact P22 | exact P23)) | (apply Part.nilc))) ?_)
    rintro v post H' ⟨rfl, rfl⟩ hH
    rcases r8 with _ | _
    · rw [if_neg (by decide)] at ho1
      try simp only [List.cons_append, List.nil_append] at hH
      subst hH
      try dsimp only [cond_true, cond_false, Bool.true_or, Bool.false_or] at ho1
      refine SPL_y (y_assign rfl) rfl ?_
      refine SPL_nil ?_
      refine thenP_n ?_
      refine SP_seq ?_
      refine SP_seq ?_
      refine SP_region ?_
      refine SPL_y (y_move rfl) rfl ?_
      refine SPL_y (y_not_f rfl) rfl ?_
      refine SPL_nil ?_
      refine thenP_n ?_
      refine SP_cond_t rfl ?_
      refine SP_region ?_
      refine SPL_one rfl (SP1_callp (vm_stop 11) Tryz.call260 rfl rfl (by repeat (first | exact Part.nil _ | (apply Part.cons; with_reducible (first | exact P0 | exact P1 | exact P2 | exact P3 | exact P4 | exact P5 | exact P6 | exact P7 | exact P8 | exact P9 | exact P10 | exact P11 | exact P12 | exact P13 | exact P14 | exact P15 | exact P16 | exact P17 | exact P18 | exact P19 | exact P20 | exact P21 | exact P22 | exact P23)) | (apply Part.flat; simp only [List.cons_append, List.nil_append]) | (apply Part.cons; (first | exact P0 | exact P1 | exact P2 | exact P3 | exact P4 | exact P5 | exact P6 | exact P7 | exact P8 | exact P9 | exact P10 | exact P11 | exact P12 | exact P13 | exact P14 | exact P15 | exact P16 | exact P17 | exact P18 | exact P19 | exact P20 | exact P21 | exact P22 | exact P23)) | (apply Part.nilc))) ?_ ?_)
      · rintro c post H' ⟨rfl, rfl⟩ hH
        try simp only [List.cons_append, List.nil_append] at hH
        subst hH
        refine thenP_panic (inBlockP_panic (thenP_panic (inBlockP_panic (thenP_panic (noGotoP_panic (bodyP_panic (H' := [seg, []]) (by repeat (first | exact Part.nil _ | (apply Part.cons; with_reducible (first | exact P0 | exact P1 | exact P2 | exact P3 | exact P4 | exact P5 | exact P6 | exact P7 | exact P8 | exact P9 | exact P10 | exact P11 | exact P12 | exact P13 | exact P14 | exact P15 | exact P16 | exact P17 | exact P18 | exact P19 | exact P20 | exact P21 | exact P22 | exact P23)) | (apply Part.flat; simp only [List.cons_append, List.nil_append]) | (apply Part.cons; (first | exact P0 | exact P1 | exact P2 | exact P3 | exact P4 | exact P5 | exact P6 | exact P7 | exact P8 | exact P9 | exact P10 | exact P11 | exact P12 | exact P13 | exact P14 | exact P15 | exact P16 | exact P17 | exact P18 | exact P19 | exact P20 | exact P21 | exact P22 | exact P23)) | (apply Part.nilc))) ?_))))))
        injection ho1 with ho1
        subst ho1
        dsimp only [bindO] at hP
        injection hP with hP
        subst hP
        exact ⟨.trp 11 m, hh, seg, rfl, rfl, hM, rfl⟩
      rintro v post H' hF hH
      exact hF.elim
    · rw [if_pos rfl] at ho1
      try simp only [List.cons_append, List.nil_append] at hH
      subst hH
      try dsimp only [cond_true, cond_false, Bool.true_or, Bool.false_or] at ho1
      refine SPL_y (y_assign rfl) rfl ?_
      refine SPL_nil ?_
      refine thenP_n ?_
      refine SP_seq ?_
      refine SP_seq ?_
      refine SP_region ?_
      refine SPL_y (y_move rfl) rfl ?_
      refine SPL_y (y_not_t rfl) rfl ?_
      refine SPL_nil ?_
      refine thenP_n ?_
      refine SP_cond_f rfl ?_
      refine SP_skip ?_
      refine thenP_n ?_
      refine SP_seq ?_
      unfold stepS at ho1
      have hs : (op = 26 → x ≤ 100) ∧ (0 ≤ f.base ∧ f.base ≤ 1000000) ∧ (0 ≤ p.nslots ∧ p.nslots ≤ 1000000) ∧ t.stack.length ≤ 1000000 := Decidable.byContradiction fun q => by rw [if_neg q] at ho1; cases ho1
      rw [if_pos hs] at ho1
      unfold effX at ho1
      have hb2 := hbd op
      refine SP_region ?_
      refine SPL_y (y_fa fld_324_0 rfl) rfl ?_
      refine SPL_y (y_load Tryz.isAgg5 rfl (by repeat (first | exact Cell.amid hpre rfl | exact Cell.head rfl | apply Cell.tail))) rfl ?_
      refine SPL_one rfl (SP1_call (vm_effect op) Tryz.call262 rfl rfl (by repeat (first | exact Part.nil _ | (apply Part.cons; with_reducible (first | exact P0 | exact P1 | exact P2 | exact P3 | exact P4 | exact P5 | exact P6 | exact P7 | exact P8 | exact P9 | exact P10 | exact P11 | exact P12 | exact P13 | exact P14 | exact P15 | exact P16 | exact P17 | exact P18 | exact P19 | exact P20 | exact P21 | exact P22 | exact P23)) | (apply Part.flat; simp only [List.cons_append, List.nil_append]) | (apply Part.cons; (first | exact P0 | exact P1 | exact P2 | exact P3 | exact P4 | exact P5 | exact P6 | exact P7 | exact P8 | exact P9 | exact P10 | exact P11 | exact P12 | exact P13 | exact P14 | exact P15 | exact P16 | exact P17 | exact P18 | exact P19 | exact P20 | exact P21 | exact P22 | exact P23)) | (apply Part.nilc))) ?_)
      rintro v post H' ⟨rfl, rfl⟩ hH
      try simp only [List.cons_append, List.nil_append] at hH
      subst hH
      refine SPL_y (y_move rfl) rfl ?_
      refine SPL_y (y_ext rfl rfl) rfl ?_
      refine SPL_y (y_ext rfl rfl) rfl ?_
      refine SPL_y (y_assign rfl) rfl ?_
      refine SPL_y (y_assign rfl) rfl ?_
      refine SPL_nil ?_
      refine thenP_n ?_
      refine SP_seq ?_
      refine SP_seq ?_
      refine SP_region ?_
      refine SPL_y (y_fa fld_324_0 rfl) rfl ?_
      refine SPL_y (y_load Tryz.isAgg5 rfl (by repeat (first | exact Cell.amid hpre rfl | exact Cell.head rfl | apply Cell.tail))) rfl ?_
      refine SPL_if (y_eql rfl rfl) rfl ?_ ?_
      · intro h12_2
        first | rw [if_pos h12_2] at ho1 | rw [if_neg h12_2] at ho1 | skip
        as_aux_lemma =>
          refine SPL_nil ?_
          refine thenP_n ?_
          refine SP_cond_t rfl ?_
          have hx9 := hs.1 h12_2
          refine SP_region ?_
          refine SPL_y (y_move rfl) rfl ?_
          refine SPL_y (y_conv Tryz.underlying3 Tryz.underlying412 rfl (show IntKind.i8.wrap (x) = x from wrap8 (by omega))) rfl ?_
          refine SPL_y (y_addw rfl rfl (show IntKind.i8.wrap (x + 1) = x + 1 from wrap8 (by omega))) rfl ?_
          refine SPL_y (y_move rfl) rfl ?_
          refine SPL_y (y_conv Tryz.underlying3 Tryz.underlying412 rfl (show IntKind.i8.wrap (x) = x from wrap8 (by omega))) rfl ?_
          refine SPL_y (y_subw rfl rfl (show IntKind.i8.wrap (1 - x) = 1 - x from wrap8 (by omega))) rfl ?_
          refine SPL_y (y_assign rfl) rfl ?_
          refine SPL_y (y_assign rfl) rfl ?_
          refine SPL_nil ?_
          refine thenP_n ?_
          refine SP_seq ?_
          refine SP_draw 999 [(0, 0), (1, 0), (2, 0), (5, 0), (6, 0), (7, 0), (10, 0), (11, 0), (12, 0), (3, 1), (4, 0), (8, 1), (9, 0), (13, 1), (14, 0), (15, 0)] mixed (by kernel_rfl) (fun _ _ _ _ _ h => h) (Part.refl _) ?_
          refine SPO_p rfl (y_move rfl) rfl ?_
          refine SPO_p rfl (y_nil rfl) rfl ?_
          refine SPO_p rfl (y_fa fld_263_2 rfl) rfl ?_
          refine SPO_p rfl (y_move rfl) rfl ?_
          refine SPO_p rfl (y_nil rfl) rfl ?_
          refine SPO_p rfl (y_fa fld_331_2 rfl) rfl ?_
          refine SPO_p rfl (y_move rfl) rfl ?_
          refine SPO_p rfl (y_nil rfl) rfl ?_
          refine SPO_p rfl (y_fa fld_252_1 rfl) rfl ?_
          refine SPO_h rfl (y_load Tryz.isAgg90 rfl (by repeat (first | exact (hrow _ 2 _ rfl) | apply Cell.tail))) rfl ?_
          refine SPO_p rfl (y_len_l Tryz.underlying90 rfl) rfl ?_
          refine SPO_h rfl (y_load Tryz.isAgg3 rfl (by repeat (first | exact (hM.frF hf hg hq rfl) | apply Cell.tail))) rfl ?_
          refine SPO_p rfl (y_sub rfl rfl (by omega)) rfl ?_
          refine SPO_h rfl (y_load Tryz.isAgg3 rfl (by repeat (first | exact ((hpq _).cell rfl) | apply Cell.tail))) rfl ?_
          refine SPO_p rfl (y_sub rfl rfl (by omega)) rfl ?_
          refine SPO_p rfl (y_assign rfl) rfl ?_
          refine SPO_nil ?_
          refine thenP_n ?_
          refine SP_seq ?_
          refine SP_seq ?_
          refine SP_region ?_
          refine SPL_y (y_move rfl) rfl ?_
          refine SPL_y (y_move rfl) rfl ?_
          refine SPL_y (y_conv Tryz.underlying412 Tryz.underlying3 rfl (show IntKind.i64.wrap (x + 1) = x + 1 from by rw [IntKind.wrap_i64]; omega)) rfl ?_
          refine SPL_if (y_lss rfl rfl) rfl ?_ ?_
          · intro h15_3
            first | rw [if_pos h15_3] at ho1 | rw [if_neg h15_3] at ho1 | skip
            as_aux_lemma =>
              refine SPL_y (y_move rfl) rfl ?_
              refine SPL_gn rfl rfl rfl rfl ?_
              refine SPL_gn rfl rfl rfl rfl ?_
              refine SPL_gn rfl rfl rfl rfl ?_
              refine SPL_gn rfl rfl rfl rfl ?_
              refine SPL_gn rfl rfl rfl rfl ?_
              refine SPL_y (y_pick_t rfl rfl) rfl ?_
              refine SPL_nil ?_
              refine thenP_n ?_
              refine SP_cond_t rfl ?_
              refine SP_region ?_
              refine SPL_one rfl (SP1_callp (vm_stop 11) Tryz.call260 rfl rfl (by repeat (first | exact Part.nil _ | (apply Part.cons; with_reducible (first | exact P0 | exact P1 | exact P2 | exact P3 | exact P4 | exact P5 | exact P6 | exact P7 | exact P8 | exact P9 | exact P10 | exact P11 | exact P12 | exact P13 | exact P14 | exact P15 | exact P16 | exact P17 | exact P18 | exact P19 | exact P20 | exact P21 | exact P22 | exact P23)) | (apply Part.flat; simp only [List.cons_append, List.nil_append]) | (apply Part.cons; (first | exact P0 | exact P1 | exact P2 | exact P3 | exact P4 | exact P5 | exact P6 | exact P7 | exact P8 | exact P9 | exact P10 | exact P11 | exact P12 | exact P13 | exact P14 | exact P15 | exact P16 | exact P17 | exact P18 | exact P19 | exact P20 | exact P21 | exact P22 | exact P23)) | (apply Part.nilc))) ?_ ?_)
              · rintro c post H' ⟨rfl, rfl⟩ hH
                try simp only [List.cons_append, List.nil_append] at hH
                subst hH
                refine thenP_panic (inBlockP_panic (thenP_panic (inBlockP_panic (thenP_panic (noGotoP_panic (bodyP_panic (H' := [seg, []]) (by repeat (first | exact Part.nil _ | (apply Part.cons; with_reducible (first | exact P0 | exact P1 | exact P2 | exact P3 | exact P4 | exact P5 | exact P6 | exact P7 | exact P8 | exact P9 | exact P10 | exact P11 | exact P12 | exact P13 | exact P14 | exact P15 | exact P16 | exact P17 | exact P18 | exact P19 | exact P20 | exact P21 | exact P22 | exact P23)) | (apply Part.flat; simp only [List.cons_append, List.nil_append]) | (apply Part.cons; (first | exact P0 | exact P1 | exact P2 | exact P3 | exact P4 | exact P5 | exact P6 | exact P7 | exact P8 | exact P9 | exact P10 | exact P11 | exact P12 | exact P13 | exact P14 | exact P15 | exact P16 | exact P17 | exact P18 | exact P19 | exact P20 | exact P21 | exact P22 | exact P23)) | (apply Part.nilc))) ?_))))))
                injection ho1 with ho1
                subst ho1
                dsimp only [bindO] at hP
                injection hP with hP
                subst hP
                exact ⟨.trp 11 m, hh, seg, rfl, rfl, hM, rfl⟩
              rintro v post H' hF hH
              exact hF.elim
          intro h15_3
          first | rw [if_neg h15_3] at ho1 | rw [if_pos (Decidable.not_not.1 h15_3)] at ho1 | skip
          as_aux_lemma =>
            refine SPL_y (y_move rfl) rfl ?_
            refine SPL_gy rfl rfl ?_
            refine SPL_y (y_move rfl) rfl ?_
            refine SPL_gy rfl rfl ?_
            refine SPL_y (y_move rfl) rfl ?_
            refine SPL_gy rfl rfl ?_
            refine SPL_y (y_conv Tryz.underlying412 Tryz.underlying3 rfl (show IntKind.i64.wrap (1 - x) = 1 - x from by rw [IntKind.wrap_i64]; omega)) rfl ?_
            refine SPL_gy rfl rfl ?_
            refine SPL_y (y_add rfl rfl (by omega)) rfl ?_
            refine SPL_gy rfl rfl ?_
            refine SPL_if (y_gtr rfl rfl) rfl ?_ ?_
            · intro h15_9
              first | rw [if_pos h15_9] at ho1 | rw [if_neg h15_9] at ho1 | skip
              as_aux_lemma =>
                refine SPL_y (y_pick_f rfl rfl) rfl ?_
                refine SPL_nil ?_
                refine thenP_n ?_
                refine SP_cond_t rfl ?_
                refine SP_region ?_
                refine SPL_one rfl (SP1_callp (vm_stop 11) Tryz.call260 rfl rfl (by repeat (first | exact Part.nil _ | (apply Part.cons; with_reducible (first | exact P0 | exact P1 | exact P2 | exact P3 | exact P4 | exact P5 | exact P6 | exact P7 | exact P8 | exact P9 | exact P10 | exact P11 | exact P12 | exact P13 | exact P14 | exact P15 | exact P16 | exact P17 | exact P18 | exact P19 | exact P20 | exact P21 | exact P22 | exact P23)) | (apply Part.flat; simp only [List.cons_append, List.nil_append]) | (apply Part.cons; (first | exact P0 | exact P1 | exact P2 | exact P3 | exact P4 | exact P5 | exact P6 | exact P7 | exact P8 | exact P9 | exact P10 | exact P11 | exact P12 | exact P13 | exact P14 | exact P15 | exact P16 | exact P17 | exact P18 | exact P19 | exact P20 | exact P21 | exact P22 | exact P23)) | (apply Part.nilc))) ?_ ?_)
                · rintro c post H' ⟨rfl, rfl⟩ hH
                  try simp only [List.cons_append, List.nil_append] at hH
                  subst hH
                  refine thenP_panic (inBlockP_panic (thenP_panic (inBlockP_panic (thenP_panic (noGotoP_panic (bodyP_panic (H' := [seg, []]) (by repeat (first | exact Part.nil _ | (apply Part.cons; with_reducible (first | exact P0 | exact P1 | exact P2 | exact P3 | exact P4 | exact P5 | exact P6 | exact P7 | exact P8 | exact P9 | exact P10 | exact P11 | exact P12 | exact P13 | exact P14 | exact P15 | exact P16 | exact P17 | exact P18 | exact P19 | exact P20 | exact P21 | exact P22 | exact P23)) | (apply Part.flat; simp only [List.cons_append, List.nil_append]) | (apply Part.cons; (first | exact P0 | exact P1 | exact P2 | exact P3 | exact P4 | exact P5 | exact P6 | exact P7 | exact P8 | exact P9 | exact P10 | exact P11 | exact P12 | exact P13 | exact P14 | exact P15 | exact P16 | exact P17 | exact P18 | exact P19 | exact P20 | exact P21 | exact P22 | exact P23)) | (apply Part.nilc))) ?_))))))
                  injection ho1 with ho1
                  subst ho1
                  dsimp only [bindO] at hP
                  injection hP with hP
                  subst hP
                  exact ⟨.trp 11 m, hh, seg, rfl, rfl, hM, rfl⟩
                rintro v post H' hF hH
                exact hF.elim
            intro h15_9
            first | rw [if_neg h15_9] at ho1 | rw [if_pos (Decidable.not_not.1 h15_9)] at ho1 | skip
            as_aux_lemma =>
              refine SPL_y (y_pick_f rfl rfl) rfl ?_
              refine SPL_nil ?_
              refine thenP_n ?_
              refine SP_cond_f rfl ?_
              refine SP_skip ?_
              refine thenP_n ?_
              refine SP_seq ?_
              unfold stepE at ho1
              refine SP_region ?_
              refine SPL_y (y_fa fld_324_0 rfl) rfl ?_
              refine SPL_y (y_load Tryz.isAgg5 rfl (by repeat (first | exact Cell.amid hpre rfl | exact Cell.head rfl | apply Cell.tail))) rfl ?_
              refine SPL_nil ?_
              refine thenP_n ?_
              refine SP_block ?_
              refine SP_seq ?_
              refine SP_region ?_
              refine SPL_if (y_eql rfl rfl) rfl ?_ ?_
              · intro h20_0
                first | rw [if_pos h20_0] at ho1 | rw [if_neg h20_0] at ho1 | skip
                omega
              intro h20_0
              first | rw [if_neg h20_0] at ho1 | rw [if_pos (Decidable.not_not.1 h20_0)] at ho1 | skip
              as_aux_lemma =>
                refine SPL_y (y_assign rfl) rfl ?_
                refine SPL_nil ?_
                refine thenP_n ?_
                refine SP_cond_f rfl ?_
                refine SP_seq ?_
                refine SP_region ?_
                refine SPL_if (y_eql rfl rfl) rfl ?_ ?_
                · intro h22_0
                  first | rw [if_pos h22_0] at ho1 | rw [if_neg h22_0] at ho1 | skip
                  omega
                intro h22_0
                first | rw [if_neg h22_0] at ho1 | rw [if_pos (Decidable.not_not.1 h22_0)] at ho1 | skip
                as_aux_lemma =>
                  refine SPL_y (y_assign rfl) rfl ?_
                  refine SPL_nil ?_
                  refine thenP_n ?_
                  refine SP_cond_f rfl ?_
                  refine SP_seq ?_
                  refine SP_seq ?_
                  refine SP_region ?_
                  refine SPL_if (y_eql rfl rfl) rfl ?_ ?_
                  · intro h27_0
                    first | rw [if_pos h27_0] at ho1 | rw [if_neg h27_0] at ho1 | skip
                    omega
                  intro h27_0
                  first | rw [if_neg h27_0] at ho1 | rw [if_pos (Decidable.not_not.1 h27_0)] at ho1 | skip
                  as_aux_lemma =>
                    refine SPL_y (y_assign rfl) rfl ?_
                    refine SPL_nil ?_
                    refine thenP_n ?_
                    refine SP_cond_f rfl ?_
                    refine SP_region ?_
                    refine SPL_if (y_eql rfl rfl) rfl ?_ ?_
                    · intro h28_0
                      first | rw [if_pos h28_0] at ho1 | rw [if_neg h28_0] at ho1 | skip
                      omega
                    intro h28_0
                    first | rw [if_neg h28_0] at ho1 | rw [if_pos (Decidable.not_not.1 h28_0)] at ho1 | skip
                    as_aux_lemma =>
                      refine SPL_y (y_assign rfl) rfl ?_
                      refine SPL_nil ?_
                      refine thenP_n ?_
                      refine SP_cond_f rfl ?_
                      refine SP_seq ?_
                      refine SP_region ?_
                      refine SPL_ifn (y_eql rfl rfl) rfl ?_ ?_
                      · intro h34_0
                        first | rw [if_neg h34_0] at ho1 | rw [if_pos (Decidable.not_not.1 h34_0)] at ho1 | skip
                        omega
                      intro h34_0
                      first | rw [if_pos h34_0] at ho1 | rw [if_neg h34_0] at ho1 | skip
                      as_aux_lemma =>
                        refine SPL_y (y_assign rfl) rfl ?_
                        refine SPL_nil ?_
                        refine thenP_n ?_
                        refine SP_cond_t rfl ?_
                        refine SP_seq ?_
                        refine SP_region ?_
                        refine SPL_y (y_move rfl) rfl ?_
                        refine SPL_y (y_move rfl) rfl ?_
                        refine SPL_y (y_move rfl) rfl ?_
                        refine SPL_y (y_move rfl) rfl ?_
                        refine SPL_y (y_move rfl) rfl ?_
                        refine SPL_one rfl (SP1_callp (vm_call hN b ph hh hfv ho1 _ hM) Tryz.call265 rfl rfl (by repeat (first | exact Part.nil _ | (apply Part.cons; with_reducible (first | exact P0 | exact P1 | exact P2 | exact P3 | exact P4 | exact P5 | exact P6 | exact P7 | exact P8 | exact P9 | exact P10 | exact P11 | exact P12 | exact P13 | exact P14 | exact P15 | exact P16 | exact P17 | exact P18 | exact P19 | exact P20 | exact P21 | exact P22 | exact P23)) | (apply Part.flat; simp only [List.cons_append, List.nil_append]) | (apply Part.cons; (first | exact P0 | exact P1 | exact P2 | exact P3 | exact P4 | exact P5 | exact P6 | exact P7 | exact P8 | exact P9 | exact P10 | exact P11 | exact P12 | exact P13 | exact P14 | exact P15 | exact P16 | exact P17 | exact P18 | exact P19 | exact P20 | exact P21 | exact P22 | exact P23)) | (apply Part.nilc))) ?_ ?_)
                        · rintro c post H' ⟨ex, hhx, sgx, rfl, rfl, hMx, rfl⟩ hH
                          try simp only [List.cons_append, List.nil_append] at hH
                          subst hH
                          refine thenP_panic (inBlockP_panic (inBlockP_panic (thenP_panic (inBlockP_panic (thenP_panic (noGotoP_panic (bodyP_panic (H' := [sgx, escS ex]) (by repeat (first | exact Part.nil _ | (apply Part.cons; with_reducible (first | exact P0 | exact P1 | exact P2 | exact P3 | exact P4 | exact P5 | exact P6 | exact P7 | exact P8 | exact P9 | exact P10 | exact P11 | exact P12 | exact P13 | exact P14 | exact P15 | exact P16 | exact P17 | exact P18 | exact P19 | exact P20 | exact P21 | exact P22 | exact P23)) | (apply Part.flat; simp only [List.cons_append, List.nil_append]) | (apply Part.cons; (first | exact P0 | exact P1 | exact P2 | exact P3 | exact P4 | exact P5 | exact P6 | exact P7 | exact P8 | exact P9 | exact P10 | exact P11 | exact P12 | exact P13 | exact P14 | exact P15 | exact P16 | exact P17 | exact P18 | exact P19 | exact P20 | exact P21 | exact P22 | exact P23)) | (apply Part.nilc))) ?_)))))))
                          rw [bindO_esc] at hP
                          injection hP with hP
                          subst hP
                          exact ⟨ex, hhx, sgx, rfl, rfl, hMx, rfl⟩
                        rintro v post H' ⟨e35, m35, rfl, rfl, hh35, sg35, hM, rfl⟩ hH
                        try simp only [List.cons_append, List.nil_append] at hH
                        subst hH
                        refine SPL_one rfl (SP1_storeAll Tryz.sizeOf184 rfl rfl rfl rfl rfl (by first | exact U0 | exact U1 | exact U2 | exact U3 | exact U4 | exact U5 | exact U6 | exact U7 | exact U8 | exact U9 | exact U10 | exact U11 | exact U12 | exact U13 | exact U14 | exact U15 | exact U16 | exact U17 | exact U18 | exact U19 | exact U20 | exact U21 | exact U22 | exact U23) (by rfl) ?_)
                        refine SPL_nil ?_
                        refine thenP_n ?_
                        refine SP_seq ?_
                        refine SP_region ?_
                        refine SPL_y (y_fa fld_184_0 rfl) rfl ?_
                        refine SPL_y (y_load Tryz.isAgg3 rfl (by repeat (first | exact Cell.amid hpre rfl | exact Cell.head rfl | apply Cell.tail))) rfl ?_
                        refine SPL_ifn (y_neq rfl rfl) rfl ?_ ?_
                        · intro h36_2
                          first | rw [if_neg h36_2] at ho1 | rw [if_pos (Decidable.not_not.1 h36_2)] at ho1 | skip
                          refine SPL_nil ?_
                          refine thenP_n ?_
                          refine SP_cond_f rfl ?_
                          refine SP_skip ?_
                          refine inBlockP_n ?_
                          refine inBlockP_n ?_
                          refine thenP_n ?_
                          dsimp only [bindO] at hP
                          rw [if_neg h36_2] at hP
                          exact Again.intro ((k, m35, hh35, sg35, e35)) (⟨hP, hM⟩) (by dsimp only; omega) (by repeat (first | exact Sub.nil _ | refine Sub.cons rfl ?_)) (by repeat (first | exact Part.nil _ | (apply Part.cons; with_reducible (first | exact P0 | exact P1 | exact P2 | exact P3 | exact P4 | exact P5 | exact P6 | exact P7 | exact P8 | exact P9 | exact P10 | exact P11 | exact P12 | exact P13 | exact P14 | exact P15 | exact P16 | exact P17 | exact P18 | exact P19 | exact P20 | exact P21 | exact P22 | exact P23)) | (apply Part.flat; simp only [List.cons_append, List.nil_append]) | (apply Part.cons; (first | exact P0 | exact P1 | exact P2 | exact P3 | exact P4 | exact P5 | exact P6 | exact P7 | exact P8 | exact P9 | exact P10 | exact P11 | exact P12 | exact P13 | exact P14 | exact P15 | exact P16 | exact P17 | exact P18 | exact P19 | exact P20 | exact P21 | exact P22 | exact P23)) | (apply Part.nilc)))
                        intro h36_2
                        first | rw [if_pos h36_2] at ho1 | rw [if_neg h36_2] at ho1 | skip
                        as_aux_lemma =>
                          refine SPL_nil ?_
                          refine thenP_n ?_
                          refine SP_cond_t rfl ?_
                          refine SP_exit ?_
                          refine inBlockP_miss rfl ?_
                          refine inBlockP_miss rfl ?_
                          refine thenP_exit ?_
                          refine inBlockP_hit ?_
                          refine thenP_n ?_
                          refine SP_seq ?_
                          refine SP_region ?_
                          refine SPL_y (y_loads Tryz.isAgg184 Tryz.sizeOf184 rfl rfl (by repeat (first | exact Cells.all _ | exact Cells.amid hpre rfl (by decide) | exact Cells.head rfl | apply Cells.tail))) rfl ?_
                          refine SPL_one rfl (SP1_storeAll Tryz.sizeOf184 rfl rfl rfl rfl rfl (by first | exact U0 | exact U1 | exact U2 | exact U3 | exact U4 | exact U5 | exact U6 | exact U7 | exact U8 | exact U9 | exact U10 | exact U11 | exact U12 | exact U13 | exact U14 | exact U15 | exact U16 | exact U17 | exact U18 | exact U19 | exact U20 | exact U21 | exact U22 | exact U23) (by rfl) ?_)
                          refine SPL_nil ?_
                          refine thenP_n ?_
                          refine SP_ret ?_
                          refine noGotoP_ret (bodyP_ret (H' := [sg35]) (ResC rfl rfl Tryz.isAgg184 Tryz.sizeOf184 rfl (by repeat (first | exact Cells.all _ | exact Cells.amid hpre rfl (by decide) | exact Cells.head rfl | apply Cells.tail))) (by repeat (first | exact Part.nil _ | (apply Part.cons; with_reducible (first | exact P0 | exact P1 | exact P2 | exact P3 | exact P4 | exact P5 | exact P6 | exact P7 | exact P8 | exact P9 | exact P10 | exact P11 | exact P12 | exact P13 | exact P14 | exact P15 | exact P16 | exact P17 | exact P18 | exact P19 | exact P20 | exact P21 | exact P22 | exact P23)) | (apply Part.flat; simp only [List.cons_append, List.nil_append]) | (apply Part.cons; (first | exact P0 | exact P1 | exact P2 | exact P3 | exact P4 | exact P5 | exact P6 | exact P7 | exact P8 | exact P9 | exact P10 | exact P11 | exact P12 | exact P13 | exact P14 | exact P15 | exact P16 | exact P17 | exact P18 | exact P19 | exact P20 | exact P21 | exact P22 | exact P23)) | (apply Part.nilc))) ?_)
                          dsimp only [bindO] at hP
                          rw [if_pos h36_2] at hP
                          injection hP with hP
                          subst hP
                          exact ⟨_, _, rfl, rfl, _, _, hM, rfl⟩
      intro h12_2
      first | rw [if_neg h12_2] at ho1 | rw [if_pos (Decidable.not_not.1 h12_2)] at ho1 | skip
      as_aux_lemma =>
        refine SPL_nil ?_
        refine thenP_n ?_
        refine SP_cond_f rfl ?_
        refine SP_skip ?_
        refine thenP_n ?_
        refine SP_seq ?_
        refine SP_draw 999 [(0, 0), (1, 0), (2, 0), (5, 0), (6, 0), (7, 0), (10, 0), (11, 0), (12, 0), (3, 1), (4, 0), (8, 1), (9, 0), (13, 1), (14, 0), (15, 0)] mixed (by kernel_rfl) (fun _ _ _ _ _ h => h) (Part.refl _) ?_
        refine SPO_p rfl (y_move rfl) rfl ?_
        refine SPO_p rfl (y_nil rfl) rfl ?_
        refine SPO_p rfl (y_fa fld_263_2 rfl) rfl ?_
        refine SPO_p rfl (y_move rfl) rfl ?_
        refine SPO_p rfl (y_nil rfl) rfl ?_
        refine SPO_p rfl (y_fa fld_331_2 rfl) rfl ?_
        refine SPO_p rfl (y_move rfl) rfl ?_
        refine SPO_p rfl (y_nil rfl) rfl ?_
        refine SPO_p rfl (y_fa fld_252_1 rfl) rfl ?_
        refine SPO_h rfl (y_load Tryz.isAgg90 rfl (by repeat (first | exact (hrow _ 2 _ rfl) | apply Cell.tail))) rfl ?_
        refine SPO_p rfl (y_len_l Tryz.underlying90 rfl) rfl ?_
        refine SPO_h rfl (y_load Tryz.isAgg3 rfl (by repeat (first | exact (hM.frF hf hg hq rfl) | apply Cell.tail))) rfl ?_
        refine SPO_p rfl (y_sub rfl rfl (by omega)) rfl ?_
        refine SPO_h rfl (y_load Tryz.isAgg3 rfl (by repeat (first | exact ((hpq _).cell rfl) | apply Cell.tail))) rfl ?_
        refine SPO_p rfl (y_sub rfl rfl (by omega)) rfl ?_
        refine SPO_p rfl (y_assign rfl) rfl ?_
        refine SPO_nil ?_
        refine thenP_n ?_
        refine SP_seq ?_
        refine SP_seq ?_
        refine SP_region ?_
        refine SPL_y (y_move rfl) rfl ?_
        refine SPL_y (y_move rfl) rfl ?_
        refine SPL_y (y_conv Tryz.underlying412 Tryz.underlying3 rfl (show IntKind.i64.wrap ((effectM op).1) = (effectM op).1 from by rw [IntKind.wrap_i64]; omega)) rfl ?_
        refine SPL_if (y_lss rfl rfl) rfl ?_ ?_
        · intro h15_3
          first | rw [if_pos h15_3] at ho1 | rw [if_neg h15_3] at ho1 | skip
          as_aux_lemma =>
            refine SPL_y (y_move rfl) rfl ?_
            refine SPL_gn rfl rfl rfl rfl ?_
            refine SPL_gn rfl rfl rfl rfl ?_
            refine SPL_gn rfl rfl rfl rfl ?_
            refine SPL_gn rfl rfl rfl rfl ?_
            refine SPL_gn rfl rfl rfl rfl ?_
            refine SPL_y (y_pick_t rfl rfl) rfl ?_
            refine SPL_nil ?_
            refine thenP_n ?_
            refine SP_cond_t rfl ?_
            refine SP_region ?_
            refine SPL_one rfl (SP1_callp (vm_stop 11) Tryz.call260 rfl rfl (by repeat (first | exact Part.nil _ | (apply Part.cons; with_reducible (first | exact P0 | exact P1 | exact P2 | exact P3 | exact P4 | exact P5 | exact P6 | exact P7 | exact P8 | exact P9 | exact P10 | exact P11 | exact P12 | exact P13 | exact P14 | exact P15 | exact P16 | exact P17 | exact P18 | exact P19 | exact P20 | exact P21 | exact P22 | exact P23)) | (apply Part.flat; simp only [List.cons_append, List.nil_append]) | (apply Part.cons; (first | exact P0 | exact P1 | exact P2 | exact P3 | exact P4 | exact P5 | exact P6 | exact P7 | exact P8 | exact P9 | exact P10 | exact P11 | exact P12 | exact P13 | exact P14 | exact P15 | exact P16 | exact P17 | exact P18 | exact P19 | exact P20 | exact P21 | exact P22 | exact P23)) | (apply Part.nilc))) ?_ ?_)
            · rintro c post H' ⟨rfl, rfl⟩ hH
              try simp only [List.cons_append, List.nil_append] at hH
              subst hH
              refine thenP_panic (inBlockP_panic (thenP_panic (inBlockP_panic (thenP_panic (noGotoP_panic (bodyP_panic (H' := [seg, []]) (by repeat (first | exact Part.nil _ | (apply Part.cons; with_reducible (first | exact P0 | exact P1 | exact P2 | exact P3 | exact P4 | exact P5 | exact P6 | exact P7 | exact P8 | exact P9 | exact P10 | exact P11 | exact P12 | exact P13 | exact P14 | exact P15 | exact P16 | exact P17 | exact P18 | exact P19 | exact P20 | exact P21 | exact P22 | exact P23)) | (apply Part.flat; simp only [List.cons_append, List.nil_append]) | (apply Part.cons; (first | exact P0 | exact P1 | exact P2 | exact P3 | exact P4 | exact P5 | exact P6 | exact P7 | exact P8 | exact P9 | exact P10 | exact P11 | exact P12 | exact P13 | exact P14 | exact P15 | exact P16 | exact P17 | exact P18 | exact P19 | exact P20 | exact P21 | exact P22 | exact P23)) | (apply Part.nilc))) ?_))))))
              injection ho1 with ho1
              subst ho1
              dsimp only [bindO] at hP
              injection hP with hP
              subst hP
              exact ⟨.trp 11 m, hh, seg, rfl, rfl, hM, rfl⟩
            rintro v post H' hF hH
            exact hF.elim
        intro h15_3
        first | rw [if_neg h15_3] at ho1 | rw [if_pos (Decidable.not_not.1 h15_3)] at ho1 | skip
        as_aux_lemma =>
          refine SPL_y (y_move rfl) rfl ?_
          refine SPL_gy rfl rfl ?_
          refine SPL_y (y_move rfl) rfl ?_
          refine SPL_gy rfl rfl ?_
          refine SPL_y (y_move rfl) rfl ?_
          refine SPL_gy rfl rfl ?_
          refine SPL_y (y_conv Tryz.underlying412 Tryz.underlying3 rfl (show IntKind.i64.wrap ((effectM op).2) = (effectM op).2 from by rw [IntKind.wrap_i64]; omega)) rfl ?_
          refine SPL_gy rfl rfl ?_
          refine SPL_y (y_add rfl rfl (by omega)) rfl ?_
          refine SPL_gy rfl rfl ?_
          refine SPL_if (y_gtr rfl rfl) rfl ?_ ?_
          · intro h15_9
            first | rw [if_pos h15_9] at ho1 | rw [if_neg h15_9] at ho1 | skip
            as_aux_lemma =>
              refine SPL_y (y_pick_f rfl rfl) rfl ?_
              refine SPL_nil ?_
              refine thenP_n ?_
              refine SP_cond_t rfl ?_
              refine SP_region ?_
              refine SPL_one rfl (SP1_callp (vm_stop 11) Tryz.call260 rfl rfl (by repeat (first | exact Part.nil _ | (apply Part.cons; with_reducible (first | exact P0 | exact P1 | exact P2 | exact P3 | exact P4 | exact P5 | exact P6 | exact P7 | exact P8 | exact P9 | exact P10 | exact P11 | exact P12 | exact P13 | exact P14 | exact P15 | exact P16 | exact P17 | exact P18 | exact P19 | exact P20 | exact P21 | exact P22 | exact P23)) | (apply Part.flat; simp only [List.cons_append, List.nil_append]) | (apply Part.cons; (first | exact P0 | exact P1 | exact P2 | exact P3 | exact P4 | exact P5 | exact P6 | exact P7 | exact P8 | exact P9 | exact P10 | exact P11 | exact P12 | exact P13 | exact P14 | exact P15 | exact P16 | exact P17 | exact P18 | exact P19 | exact P20 | exact P21 | exact P22 | exact P23)) | (apply Part.nilc))) ?_ ?_)
              · rintro c post H' ⟨rfl, rfl⟩ hH
                try simp only [List.cons_append, List.nil_append] at hH
                subst hH
                refine thenP_panic (inBlockP_panic (thenP_panic (inBlockP_panic (thenP_panic (noGotoP_panic (bodyP_panic (H' := [seg, []]) (by repeat (first | exact Part.nil _ | (apply Part.cons; with_reducible (first | exact P0 | exact P1 | exact P2 | exact P3 | exact P4 | exact P5 | exact P6 | exact P7 | exact P8 | exact P9 | exact P10 | exact P11 | exact P12 | exact P13 | exact P14 | exact P15 | exact P16 | exact P17 | exact P18 | exact P19 | exact P20 | exact P21 | exact P22 | exact P23)) | (apply Part.flat; simp only [List.cons_append, List.nil_append]) | (apply Part.cons; (first | exact P0 | exact P1 | exact P2 | exact P3 | exact P4 | exact P5 | exact P6 | exact P7 | exact P8 | exact P9 | exact P10 | exact P11 | exact P12 | exact P13 | exact P14 | exact P15 | exact P16 | exact P17 | exact P18 | exact P19 | exact P20 | exact P21 | exact P22 | exact P23)) | (apply Part.nilc))) ?_))))))
                injection ho1 with ho1
                subst ho1
                dsimp only [bindO] at hP
                injection hP with hP
                subst hP
                exact ⟨.trp 11 m, hh, seg, rfl, rfl, hM, rfl⟩
              rintro v post H' hF hH
              exact hF.elim
          intro h15_9
          first | rw [if_neg h15_9] at ho1 | rw [if_pos (Decidable.not_not.1 h15_9)] at ho1 | skip
          as_aux_lemma =>
            refine SPL_y (y_pick_f rfl rfl) rfl ?_
            refine SPL_nil ?_
            refine thenP_n ?_
            refine SP_cond_f rfl ?_
            refine SP_skip ?_
            refine thenP_n ?_
            refine SP_seq ?_
            unfold stepE at ho1
            refine SP_region ?_
            refine SPL_y (y_fa fld_324_0 rfl) rfl ?_
            refine SPL_y (y_load Tryz.isAgg5 rfl (by repeat (first | exact Cell.amid hpre rfl | exact Cell.head rfl | apply Cell.tail))) rfl ?_
            refine SPL_nil ?_
            refine thenP_n ?_
            refine SP_block ?_
            refine SP_seq ?_
            refine SP_region ?_
            refine SPL_if (y_eql rfl rfl) rfl ?_ ?_
            · intro h20_0
              first | rw [if_pos h20_0] at ho1 | rw [if_neg h20_0] at ho1 | skip
              as_aux_lemma =>
                refine SPL_y (y_assign rfl) rfl ?_
                refine SPL_nil ?_
                refine thenP_n ?_
                refine SP_cond_t rfl ?_
                refine SP_region ?_
                refine SPL_y (y_move rfl) rfl ?_
                refine SPL_y (y_move rfl) rfl ?_
                refine SPL_y (y_move rfl) rfl ?_
                obtain ⟨oj, hqj, ho1⟩ := bndO ho1
                refine SPL_one rfl (SP1_callp (vm_jump b ph _ hfv hqj _ hM) Tryz.call263 rfl rfl (by repeat (first | exact Part.nil _ | (apply Part.cons; with_reducible (first | exact P0 | exact P1 | exact P2 | exact P3 | exact P4 | exact P5 | exact P6 | exact P7 | exact P8 | exact P9 | exact P10 | exact P11 | exact P12 | exact P13 | exact P14 | exact P15 | exact P16 | exact P17 | exact P18 | exact P19 | exact P20 | exact P21 | exact P22 | exact P23)) | (apply Part.flat; simp only [List.cons_append, List.nil_append]) | (apply Part.cons; (first | exact P0 | exact P1 | exact P2 | exact P3 | exact P4 | exact P5 | exact P6 | exact P7 | exact P8 | exact P9 | exact P10 | exact P11 | exact P12 | exact P13 | exact P14 | exact P15 | exact P16 | exact P17 | exact P18 | exact P19 | exact P20 | exact P21 | exact P22 | exact P23)) | (apply Part.nilc))) ?_ ?_)
                · rintro c post H' ⟨ex, hhx, sgx, rfl, rfl, hkx, hMx, rfl⟩ hH
                  try simp only [List.cons_append, List.nil_append] at hH
                  subst hH
                  refine inBlockP_panic (inBlockP_panic (thenP_panic (inBlockP_panic (thenP_panic (noGotoP_panic (bodyP_panic (H' := [sgx, escS ex]) (by repeat (first | exact Part.nil _ | (apply Part.cons; with_reducible (first | exact P0 | exact P1 | exact P2 | exact P3 | exact P4 | exact P5 | exact P6 | exact P7 | exact P8 | exact P9 | exact P10 | exact P11 | exact P12 | exact P13 | exact P14 | exact P15 | exact P16 | exact P17 | exact P18 | exact P19 | exact P20 | exact P21 | exact P22 | exact P23)) | (apply Part.flat; simp only [List.cons_append, List.nil_append]) | (apply Part.cons; (first | exact P0 | exact P1 | exact P2 | exact P3 | exact P4 | exact P5 | exact P6 | exact P7 | exact P8 | exact P9 | exact P10 | exact P11 | exact P12 | exact P13 | exact P14 | exact P15 | exact P16 | exact P17 | exact P18 | exact P19 | exact P20 | exact P21 | exact P22 | exact P23)) | (apply Part.nilc))) ?_))))))
                  rw [bindO_esc] at ho1
                  injection ho1 with ho1
                  subst ho1
                  rw [bindO_esc] at hP
                  injection hP with hP
                  subst hP
                  exact ⟨ex, hhx, sgx, rfl, rfl, hMx, rfl⟩
                rintro v post H' ⟨aj, mj, rfl, rfl, hhj, sgj, hkj, hM, rfl⟩ hH
                try simp only [List.cons_append, List.nil_append] at hH
                subst hH
                dsimp only [bindO] at ho1
                refine SPL_nil ?_
                refine inBlockP_n ?_
                refine inBlockP_n ?_
                refine thenP_n ?_
                injection ho1 with ho1
                subst ho1
                dsimp only [bindO] at hP
                rw [if_neg (by decide)] at hP
                exact Again.intro ((k, mj, hhj, sgj, e)) (⟨hP, hM⟩) (by dsimp only; omega) (by repeat (first | exact Sub.nil _ | refine Sub.cons rfl ?_)) (by repeat (first | exact Part.nil _ | (apply Part.cons; with_reducible (first | exact P0 | exact P1 | exact P2 | exact P3 | exact P4 | exact P5 | exact P6 | exact P7 | exact P8 | exact P9 | exact P10 | exact P11 | exact P12 | exact P13 | exact P14 | exact P15 | exact P16 | exact P17 | exact P18 | exact P19 | exact P20 | exact P21 | exact P22 | exact P23)) | (apply Part.flat; simp only [List.cons_append, List.nil_append]) | (apply Part.cons; (first | exact P0 | exact P1 | exact P2 | exact P3 | exact P4 | exact P5 | exact P6 | exact P7 | exact P8 | exact P9 | exact P10 | exact P11 | exact P12 | exact P13 | exact P14 | exact P15 | exact P16 | exact P17 | exact P18 | exact P19 | exact P20 | exact P21 | exact P22 | exact P23)) | (apply Part.nilc)))
            intro h20_0
            first | rw [if_neg h20_0] at ho1 | rw [if_pos (Decidable.not_not.1 h20_0)] at ho1 | skip
            as_aux_lemma =>
              refine SPL_y (y_assign rfl) rfl ?_
              refine SPL_nil ?_
              refine thenP_n ?_
              refine SP_cond_f rfl ?_
              refine SP_seq ?_
              refine SP_region ?_
              refine SPL_if (y_eql rfl rfl) rfl ?_ ?_
              · intro h22_0
                first | rw [if_pos h22_0] at ho1 | rw [if_neg h22_0] at ho1 | skip
                as_aux_lemma =>
                  refine SPL_y (y_assign rfl) rfl ?_
                  refine SPL_nil ?_
                  refine thenP_n ?_
                  refine SP_cond_t rfl ?_
                  refine SP_seq ?_
                  refine SP_region ?_
                  refine SPL_y (y_move rfl) rfl ?_
                  obtain ⟨v23, m23, hq23, ho1⟩ := bnd2 ho1
                  refine SPL_one rfl (SP1_call (vm_pop b ph _ hq23 _ hM) Tryz.call264 rfl rfl (by repeat (first | exact Part.nil _ | (apply Part.cons; with_reducible (first | exact P0 | exact P1 | exact P2 | exact P3 | exact P4 | exact P5 | exact P6 | exact P7 | exact P8 | exact P9 | exact P10 | exact P11 | exact P12 | exact P13 | exact P14 | exact P15 | exact P16 | exact P17 | exact P18 | exact P19 | exact P20 | exact P21 | exact P22 | exact P23)) | (apply Part.flat; simp only [List.cons_append, List.nil_append]) | (apply Part.cons; (first | exact P0 | exact P1 | exact P2 | exact P3 | exact P4 | exact P5 | exact P6 | exact P7 | exact P8 | exact P9 | exact P10 | exact P11 | exact P12 | exact P13 | exact P14 | exact P15 | exact P16 | exact P17 | exact P18 | exact P19 | exact P20 | exact P21 | exact P22 | exact P23)) | (apply Part.nilc))) ?_)
                  rintro v post H' ⟨rfl, sg23, hM, rfl⟩ hH
                  try simp only [List.cons_append, List.nil_append] at hH
                  subst hH
                  refine SPL_one rfl (SP1_alloc Tryz.zeroValue42 rfl rfl ?_)
                  intro b16
                  refine SPL_one rfl (SP1_storeAll Tryz.sizeOf42 rfl rfl rfl rfl rfl (by first | exact U0 | exact U1 | exact U2 | exact U3 | exact U4 | exact U5 | exact U6 | exact U7 | exact U8 | exact U9 | exact U10 | exact U11 | exact U12 | exact U13 | exact U14 | exact U15 | exact U16 | exact U17 | exact U18 | exact U19 | exact U20 | exact U21 | exact U22 | exact U23) (by rfl) ?_)
                  refine SPL_nil ?_
                  refine thenP_n ?_
                  refine SP_seq ?_
                  refine SP_region ?_
                  refine SPL_y (y_loads Tryz.isAgg42 Tryz.sizeOf42 rfl rfl (by repeat (first | exact Cells.all _ | exact Cells.amid hpre rfl (by decide) | exact Cells.head rfl | apply Cells.tail))) rfl ?_
                  refine SPL_one rfl (SP1_call (api_Truthy v23) Tryz.call102 rfl rfl (by repeat (first | exact Part.nil _ | (apply Part.cons; with_reducible (first | exact P0 | exact P1 | exact P2 | exact P3 | exact P4 | exact P5 | exact P6 | exact P7 | exact P8 | exact P9 | exact P10 | exact P11 | exact P12 | exact P13 | exact P14 | exact P15 | exact P16 | exact P17 | exact P18 | exact P19 | exact P20 | exact P21 | exact P22 | exact P23)) | (apply Part.flat; simp only [List.cons_append, List.nil_append]) | (apply Part.cons; (first | exact P0 | exact P1 | exact P2 | exact P3 | exact P4 | exact P5 | exact P6 | exact P7 | exact P8 | exact P9 | exact P10 | exact P11 | exact P12 | exact P13 | exact P14 | exact P15 | exact P16 | exact P17 | exact P18 | exact P19 | exact P20 | exact P21 | exact P22 | exact P23)) | (apply Part.nilc))) ?_)
                  rintro v post H' ⟨rfl, rfl⟩ hH
                  rcases htr : truthy v23 with _ | _
                  · rw [htr, if_neg (by decide)] at ho1
                    try simp only [List.cons_append, List.nil_append] at hH
                    subst hH
                    try dsimp only [cond_true, cond_false, Bool.true_or, Bool.false_or] at ho1
                    refine SPL_nil ?_
                    refine thenP_n ?_
                    refine SP_cond_f rfl ?_
                    refine SP_region ?_
                    refine SPL_y (y_move rfl) rfl ?_
                    refine SPL_y (y_move rfl) rfl ?_
                    refine SPL_y (y_move rfl) rfl ?_
                    obtain ⟨oj, hqj, ho1⟩ := bndO ho1
                    refine SPL_one rfl (SP1_callp (vm_jump b ph _ hfv hqj _ hM) Tryz.call263 rfl rfl (by repeat (first | exact Part.nil _ | (apply Part.cons; with_reducible (first | exact P0 | exact P1 | exact P2 | exact P3 | exact P4 | exact P5 | exact P6 | exact P7 | exact P8 | exact P9 | exact P10 | exact P11 | exact P12 | exact P13 | exact P14 | exact P15 | exact P16 | exact P17 | exact P18 | exact P19 | exact P20 | exact P21 | exact P22 | exact P23)) | (apply Part.flat; simp only [List.cons_append, List.nil_append]) | (apply Part.cons; (first | exact P0 | exact P1 | exact P2 | exact P3 | exact P4 | exact P5 | exact P6 | exact P7 | exact P8 | exact P9 | exact P10 | exact P11 | exact P12 | exact P13 | exact P14 | exact P15 | exact P16 | exact P17 | exact P18 | exact P19 | exact P20 | exact P21 | exact P22 | exact P23)) | (apply Part.nilc))) ?_ ?_)
                    · rintro c post H' ⟨ex, hhx, sgx, rfl, rfl, hkx, hMx, rfl⟩ hH
                      try simp only [List.cons_append, List.nil_append] at hH
                      subst hH
                      refine inBlockP_panic (inBlockP_panic (thenP_panic (inBlockP_panic (thenP_panic (noGotoP_panic (bodyP_panic (H' := [sgx, escS ex]) (by repeat (first | exact Part.nil _ | (apply Part.cons; with_reducible (first | exact P0 | exact P1 | exact P2 | exact P3 | exact P4 | exact P5 | exact P6 | exact P7 | exact P8 | exact P9 | exact P10 | exact P11 | exact P12 | exact P13 | exact P14 | exact P15 | exact P16 | exact P17 | exact P18 | exact P19 | exact P20 | exact P21 | exact P22 | exact P23)) | (apply Part.flat; simp only [List.cons_append, List.nil_append]) | (apply Part.cons; (first | exact P0 | exact P1 | exact P2 | exact P3 | exact P4 | exact P5 | exact P6 | exact P7 | exact P8 | exact P9 | exact P10 | exact P11 | exact P12 | exact P13 | exact P14 | exact P15 | exact P16 | exact P17 | exact P18 | exact P19 | exact P20 | exact P21 | exact P22 | exact P23)) | (apply Part.nilc))) ?_))))))
                      rw [bindO_esc] at ho1
                      injection ho1 with ho1
                      subst ho1
                      rw [bindO_esc] at hP
                      injection hP with hP
                      subst hP
                      exact ⟨ex, hhx, sgx, rfl, rfl, hMx, rfl⟩
                    rintro v post H' ⟨aj, mj, rfl, rfl, hhj, sgj, hkj, hM, rfl⟩ hH
                    try simp only [List.cons_append, List.nil_append] at hH
                    subst hH
                    dsimp only [bindO] at ho1
                    refine SPL_nil ?_
                    refine inBlockP_n ?_
                    refine inBlockP_n ?_
                    refine thenP_n ?_
                    injection ho1 with ho1
                    subst ho1
                    dsimp only [bindO] at hP
                    rw [if_neg (by decide)] at hP
                    exact Again.intro ((k, mj, hhj, sgj, e)) (⟨hP, hM⟩) (by dsimp only; omega) (by repeat (first | exact Sub.nil _ | refine Sub.cons rfl ?_)) (by repeat (first | exact Part.nil _ | (apply Part.cons; with_reducible (first | exact P0 | exact P1 | exact P2 | exact P3 | exact P4 | exact P5 | exact P6 | exact P7 | exact P8 | exact P9 | exact P10 | exact P11 | exact P12 | exact P13 | exact P14 | exact P15 | exact P16 | exact P17 | exact P18 | exact P19 | exact P20 | exact P21 | exact P22 | exact P23)) | (apply Part.flat; simp only [List.cons_append, List.nil_append]) | (apply Part.cons; (first | exact P0 | exact P1 | exact P2 | exact P3 | exact P4 | exact P5 | exact P6 | exact P7 | exact P8 | exact P9 | exact P10 | exact P11 | exact P12 | exact P13 | exact P14 | exact P15 | exact P16 | exact P17 | exact P18 | exact P19 | exact P20 | exact P21 | exact P22 | exact P23)) | (apply Part.nilc)))
                  · rw [htr, if_pos rfl] at ho1
                    try simp only [List.cons_append, List.nil_append] at hH
                    subst hH
                    try dsimp only [cond_true, cond_false, Bool.true_or, Bool.false_or] at ho1
                    refine SPL_nil ?_
                    refine thenP_n ?_
                    refine SP_cond_t rfl ?_
                    unfold outE at ho1
                    obtain ⟨mz, hnp, ho1⟩ := bnd1 ho1
                    obtain ⟨fz, hfz, hrz, hpcz⟩ := nextPc_f hnp
                    obtain ⟨gz, qz, hgz, hqz, hfe⟩ := hfv
                    injection hfe with hfe
                    injection hfe with hfe
                    injection hfe with hfe _
                    subst hfe
                    obtain ⟨prez, postz, sgz, hprez, hupz, hMz⟩ := hM.setPc hfz hpcz hgz hqz
                    refine SP_region ?_
                    refine SPL_y (y_move rfl) rfl ?_
                    refine SPL_y (y_nil rfl) rfl ?_
                    refine SPL_y (y_fa fld_331_1 rfl) rfl ?_
                    refine SPL_y (y_load Tryz.isAgg3 rfl (by repeat (first | exact (hM.frF hfz hgz hqz rfl) | apply Cell.tail))) rfl ?_
                    refine SPL_y (y_add rfl rfl (by omega)) rfl ?_
                    refine SPL_y (y_nil rfl) rfl ?_
                    refine SPL_y (y_fa fld_331_1 rfl) rfl ?_
                    refine SPL_one rfl (SP1_storeM (j := 1) (pre := prez) (cs := frV fz) (post := postz) Tryz.sizeOf3 rfl rfl rfl hprez (by repeat (first | exact hupz _ | apply Upd.tail)) (by rfl) ?_)
                    refine SPL_nil ?_
                    refine inBlockP_n ?_
                    refine inBlockP_n ?_
                    refine thenP_n ?_
                    replace hM := hMz
                    injection ho1 with ho1
                    subst ho1
                    dsimp only [bindO] at hP
                    rw [if_neg (by decide)] at hP
                    exact Again.intro ((k, mz, _, sgz, e)) (⟨hP, hM⟩) (by dsimp only; omega) (by repeat (first | exact Sub.nil _ | refine Sub.cons rfl ?_)) (by repeat (first | exact Part.nil _ | (apply Part.cons; with_reducible (first | exact P0 | exact P1 | exact P2 | exact P3 | exact P4 | exact P5 | exact P6 | exact P7 | exact P8 | exact P9 | exact P10 | exact P11 | exact P12 | exact P13 | exact P14 | exact P15 | exact P16 | exact P17 | exact P18 | exact P19 | exact P20 | exact P21 | exact P22 | exact P23)) | (apply Part.flat; simp only [List.cons_append, List.nil_append]) | (apply Part.cons; (first | exact P0 | exact P1 | exact P2 | exact P3 | exact P4 | exact P5 | exact P6 | exact P7 | exact P8 | exact P9 | exact P10 | exact P11 | exact P12 | exact P13 | exact P14 | exact P15 | exact P16 | exact P17 | exact P18 | exact P19 | exact P20 | exact P21 | exact P22 | exact P23)) | (apply Part.nilc)))
              intro h22_0
              first | rw [if_neg h22_0] at ho1 | rw [if_pos (Decidable.not_not.1 h22_0)] at ho1 | skip
              as_aux_lemma =>
                refine SPL_y (y_assign rfl) rfl ?_
                refine SPL_nil ?_
                refine thenP_n ?_
                refine SP_cond_f rfl ?_
                refine SP_seq ?_
                refine SP_seq ?_
                refine SP_region ?_
                refine SPL_if (y_eql rfl rfl) rfl ?_ ?_
                · intro h27_0
                  first | rw [if_pos h27_0] at ho1 | rw [if_neg h27_0] at ho1 | skip
                  as_aux_lemma =>
                    refine SPL_y (y_assign rfl) rfl ?_
                    refine SPL_nil ?_
                    refine thenP_n ?_
                    refine SP_cond_t rfl ?_
                    refine SP_skip ?_
                    refine thenP_n ?_
                    refine SP_cond_t rfl ?_
                    refine SP_seq ?_
                    unfold sJmp getT at ho1
                    obtain ⟨t29, ht29, ho1⟩ := bnd1 ho1
                    have hl29 : t29.stack.length ≤ 1000000 := Decidable.byContradiction fun q => by rw [if_neg q] at ho1; cases ho1
                    rw [if_pos hl29] at ho1
                    obtain ⟨y, hy, ho1⟩ := bnd1 ho1
                    obtain ⟨g29, oa29, oc29, hg29, _, hrow29, hst29, _⟩ := hM.thr ht29
                    obtain ⟨sq, hsa, hsc⟩ := hst29 _ _ (getI_last hy hl29)
                    have hy0 := (List.getElem?_eq_some_iff.1 hy).1
                    have hstk : ∀ H : Hp, Cell (seg :: H) b.thb (0 + th * 5 + 2) (.slice (some ⟨sq, 0, none⟩) t29.stack.length g29.sc) := fun H => hsa ▸ hrow29 H 2 _ rfl
                    refine SP_draw 12 [(0, 0), (1, 0), (2, 0), (4, 0), (5, 0), (6, 0), (3, 1), (7, 1), (8, 0), (9, 0), (10, 0), (11, 1), (12, 3), (13, 0)] mixed (by kernel_rfl) (fun _ _ _ _ _ h => h) (Part.refl _) ?_
                    refine SPO_p rfl (y_move rfl) rfl ?_
                    refine SPO_p rfl (y_nil rfl) rfl ?_
                    refine SPO_p rfl (y_fa fld_263_2 rfl) rfl ?_
                    refine SPO_p rfl (y_move rfl) rfl ?_
                    refine SPO_p rfl (y_nil rfl) rfl ?_
                    refine SPO_p rfl (y_fa fld_263_2 rfl) rfl ?_
                    refine SPO_h rfl (y_load Tryz.isAgg90 rfl (by repeat (first | exact (hstk _) | apply Cell.tail))) rfl ?_
                    refine SPO_h rfl (y_load Tryz.isAgg90 rfl (by repeat (first | exact (hstk _) | apply Cell.tail))) rfl ?_
                    refine SPO_p rfl (y_len_l Tryz.underlying90 rfl) rfl ?_
                    refine SPO_p rfl (y_sub rfl rfl (by omega)) rfl ?_
                    refine SPO_p rfl (y_ia Tryz.underlying90 Tryz.sizeOf42 rfl rfl (by omega)) rfl ?_
                    refine SPO_h rfl (y_loads Tryz.isAgg42 Tryz.sizeOf42 rfl rfl (by repeat (first | exact (hsc _) | apply Cells.tail))) rfl ?_
                    refine SPO_z (k := 0) rfl rfl (SP1_call (api_Truthy y) Tryz.call102 rfl rfl (by repeat (first | exact Part.nil _ | (apply Part.cons; with_reducible (first | exact P0 | exact P1 | exact P2 | exact P3 | exact P4 | exact P5 | exact P6 | exact P7 | exact P8 | exact P9 | exact P10 | exact P11 | exact P12 | exact P13 | exact P14 | exact P15 | exact P16 | exact P17 | exact P18 | exact P19 | exact P20 | exact P21 | exact P22 | exact P23)) | (apply Part.flat; simp only [List.cons_append, List.nil_append]) | (apply Part.cons; (first | exact P0 | exact P1 | exact P2 | exact P3 | exact P4 | exact P5 | exact P6 | exact P7 | exact P8 | exact P9 | exact P10 | exact P11 | exact P12 | exact P13 | exact P14 | exact P15 | exact P16 | exact P17 | exact P18 | exact P19 | exact P20 | exact P21 | exact P22 | exact P23)) | (apply Part.nilc))) ?_)
                    rintro v post H' ⟨rfl, rfl⟩ hH
                    try simp only [List.cons_append, List.nil_append] at hH
                    subst hH
                    generalize htr : truthy y = tr at ho1 ⊢
                    refine SPO_p rfl (y_assign rfl) rfl ?_
                    refine SPO_nil ?_
                    refine thenP_n ?_
                    refine SP_seq ?_
                    refine SP_region ?_
                    refine SPL_y (y_move rfl) rfl ?_
                    refine SPL_y (y_fa fld_324_0 rfl) rfl ?_
                    refine SPL_y (y_load Tryz.isAgg5 rfl (by repeat (first | exact Cell.amid hpre rfl | exact Cell.head rfl | apply Cell.tail))) rfl ?_
                    refine SPL_y (y_eql rfl rfl) rfl ?_
                    refine SPL_y (y_beqB Tryz.underlying4 rfl rfl) rfl ?_
                    refine SPL_nil ?_
                    refine thenP_n ?_
                    refine SP_cond_b rfl ?_ ?_
                    · intro hc187
                      first | rw [if_pos hc187] at ho1 | rw [if_neg hc187] at ho1 | skip
                      as_aux_lemma =>
                        rw [if_pos (by rw [show decide (op = 24) = false from decide_eq_false (by omega)] at hc187; simpa using hc187)] at ho1
                        refine SP_region ?_
                        refine SPL_y (y_move rfl) rfl ?_
                        refine SPL_y (y_move rfl) rfl ?_
                        refine SPL_y (y_move rfl) rfl ?_
                        obtain ⟨oj, hqj, ho1⟩ := bndO ho1
                        refine SPL_one rfl (SP1_callp (vm_jump b ph _ hfv hqj _ hM) Tryz.call263 rfl rfl (by repeat (first | exact Part.nil _ | (apply Part.cons; with_reducible (first | exact P0 | exact P1 | exact P2 | exact P3 | exact P4 | exact P5 | exact P6 | exact P7 | exact P8 | exact P9 | exact P10 | exact P11 | exact P12 | exact P13 | exact P14 | exact P15 | exact P16 | exact P17 | exact P18 | exact P19 | exact P20 | exact P21 | exact P22 | exact P23)) | (apply Part.flat; simp only [List.cons_append, List.nil_append]) | (apply Part.cons; (first | exact P0 | exact P1 | exact P2 | exact P3 | exact P4 | exact P5 | exact P6 | exact P7 | exact P8 | exact P9 | exact P10 | exact P11 | exact P12 | exact P13 | exact P14 | exact P15 | exact P16 | exact P17 | exact P18 | exact P19 | exact P20 | exact P21 | exact P22 | exact P23)) | (apply Part.nilc))) ?_ ?_)
                        · rintro c post H' ⟨ex, hhx, sgx, rfl, rfl, hkx, hMx, rfl⟩ hH
                          try simp only [List.cons_append, List.nil_append] at hH
                          subst hH
                          refine inBlockP_panic (inBlockP_panic (thenP_panic (inBlockP_panic (thenP_panic (noGotoP_panic (bodyP_panic (H' := [sgx, escS ex]) (by repeat (first | exact Part.nil _ | (apply Part.cons; with_reducible (first | exact P0 | exact P1 | exact P2 | exact P3 | exact P4 | exact P5 | exact P6 | exact P7 | exact P8 | exact P9 | exact P10 | exact P11 | exact P12 | exact P13 | exact P14 | exact P15 | exact P16 | exact P17 | exact P18 | exact P19 | exact P20 | exact P21 | exact P22 | exact P23)) | (apply Part.flat; simp only [List.cons_append, List.nil_append]) | (apply Part.cons; (first | exact P0 | exact P1 | exact P2 | exact P3 | exact P4 | exact P5 | exact P6 | exact P7 | exact P8 | exact P9 | exact P10 | exact P11 | exact P12 | exact P13 | exact P14 | exact P15 | exact P16 | exact P17 | exact P18 | exact P19 | exact P20 | exact P21 | exact P22 | exact P23)) | (apply Part.nilc))) ?_))))))
                          rw [bindO_esc] at ho1
                          injection ho1 with ho1
                          subst ho1
                          rw [bindO_esc] at hP
                          injection hP with hP
                          subst hP
                          exact ⟨ex, hhx, sgx, rfl, rfl, hMx, rfl⟩
                        rintro v post H' ⟨aj, mj, rfl, rfl, hhj, sgj, hkj, hM, rfl⟩ hH
                        try simp only [List.cons_append, List.nil_append] at hH
                        subst hH
                        dsimp only [bindO] at ho1
                        refine SPL_nil ?_
                        refine inBlockP_n ?_
                        refine inBlockP_n ?_
                        refine thenP_n ?_
                        injection ho1 with ho1
                        subst ho1
                        dsimp only [bindO] at hP
                        rw [if_neg (by decide)] at hP
                        exact Again.intro ((k, mj, hhj, sgj, e)) (⟨hP, hM⟩) (by dsimp only; omega) (by repeat (first | exact Sub.nil _ | refine Sub.cons rfl ?_)) (by repeat (first | exact Part.nil _ | (apply Part.cons; with_reducible (first | exact P0 | exact P1 | exact P2 | exact P3 | exact P4 | exact P5 | exact P6 | exact P7 | exact P8 | exact P9 | exact P10 | exact P11 | exact P12 | exact P13 | exact P14 | exact P15 | exact P16 | exact P17 | exact P18 | exact P19 | exact P20 | exact P21 | exact P22 | exact P23)) | (apply Part.flat; simp only [List.cons_append, List.nil_append]) | (apply Part.cons; (first | exact P0 | exact P1 | exact P2 | exact P3 | exact P4 | exact P5 | exact P6 | exact P7 | exact P8 | exact P9 | exact P10 | exact P11 | exact P12 | exact P13 | exact P14 | exact P15 | exact P16 | exact P17 | exact P18 | exact P19 | exact P20 | exact P21 | exact P22 | exact P23)) | (apply Part.nilc)))
                    intro hc187
                    first | rw [if_neg hc187] at ho1 | rw [if_pos (Decidable.not_not.1 hc187)] at ho1 | skip
                    as_aux_lemma =>
                      refine SP_seq ?_
                      rw [if_neg (by rw [show decide (op = 24) = false from decide_eq_false (by omega)] at hc187; simpa using hc187)] at ho1
                      refine SP_region ?_
                      refine SPL_y (y_move rfl) rfl ?_
                      obtain ⟨v32, m32, hq32, ho1⟩ := bnd2 ho1
                      refine SPL_one rfl (SP1_call (vm_pop b ph _ hq32 _ hM) Tryz.call264 rfl rfl (by repeat (first | exact Part.nil _ | (apply Part.cons; with_reducible (first | exact P0 | exact P1 | exact P2 | exact P3 | exact P4 | exact P5 | exact P6 | exact P7 | exact P8 | exact P9 | exact P10 | exact P11 | exact P12 | exact P13 | exact P14 | exact P15 | exact P16 | exact P17 | exact P18 | exact P19 | exact P20 | exact P21 | exact P22 | exact P23)) | (apply Part.flat; simp only [List.cons_append, List.nil_append]) | (apply Part.cons; (first | exact P0 | exact P1 | exact P2 | exact P3 | exact P4 | exact P5 | exact P6 | exact P7 | exact P8 | exact P9 | exact P10 | exact P11 | exact P12 | exact P13 | exact P14 | exact P15 | exact P16 | exact P17 | exact P18 | exact P19 | exact P20 | exact P21 | exact P22 | exact P23)) | (apply Part.nilc))) ?_)
                      rintro v post H' ⟨rfl, sg32, hM, rfl⟩ hH
                      try simp only [List.cons_append, List.nil_append] at hH
                      subst hH
                      refine SPL_nil ?_
                      refine thenP_n ?_
                      unfold outE at ho1
                      obtain ⟨mz, hnp, ho1⟩ := bnd1 ho1
                      obtain ⟨fz, hfz, hrz, hpcz⟩ := nextPc_f hnp
                      obtain ⟨gz, qz, hgz, hqz, hfe⟩ := hfv
                      injection hfe with hfe
                      injection hfe with hfe
                      injection hfe with hfe _
                      subst hfe
                      obtain ⟨prez, postz, sgz, hprez, hupz, hMz⟩ := hM.setPc hfz hpcz hgz hqz
                      refine SP_region ?_
                      refine SPL_y (y_move rfl) rfl ?_
                      refine SPL_y (y_nil rfl) rfl ?_
                      refine SPL_y (y_fa fld_331_1 rfl) rfl ?_
                      refine SPL_y (y_load Tryz.isAgg3 rfl (by repeat (first | exact (hM.frF hfz hgz hqz rfl) | apply Cell.tail))) rfl ?_
                      refine SPL_y (y_add rfl rfl (by omega)) rfl ?_
                      refine SPL_y (y_nil rfl) rfl ?_
                      refine SPL_y (y_fa fld_331_1 rfl) rfl ?_
                      refine SPL_one rfl (SP1_storeM (j := 1) (pre := prez) (cs := frV fz) (post := postz) Tryz.sizeOf3 rfl rfl rfl hprez (by repeat (first | exact hupz _ | apply Upd.tail)) (by rfl) ?_)
                      refine SPL_nil ?_
                      refine inBlockP_n ?_
                      refine inBlockP_n ?_
                      refine thenP_n ?_
                      replace hM := hMz
                      injection ho1 with ho1
                      subst ho1
                      dsimp only [bindO] at hP
                      rw [if_neg (by decide)] at hP
                      exact Again.intro ((k, mz, _, sgz, e)) (⟨hP, hM⟩) (by dsimp only; omega) (by repeat (first | exact Sub.nil _ | refine Sub.cons rfl ?_)) (by repeat (first | exact Part.nil _ | (apply Part.cons; with_reducible (first | exact P0 | exact P1 | exact P2 | exact P3 | exact P4 | exact P5 | exact P6 | exact P7 | exact P8 | exact P9 | exact P10 | exact P11 | exact P12 | exact P13 | exact P14 | exact P15 | exact P16 | exact P17 | exact P18 | exact P19 | exact P20 | exact P21 | exact P22 | exact P23)) | (apply Part.flat; simp only [List.cons_append, List.nil_append]) | (apply Part.cons; (first | exact P0 | exact P1 | exact P2 | exact P3 | exact P4 | exact P5 | exact P6 | exact P7 | exact P8 | exact P9 | exact P10 | exact P11 | exact P12 | exact P13 | exact P14 | exact P15 | exact P16 | exact P17 | exact P18 | exact P19 | exact P20 | exact P21 | exact P22 | exact P23)) | (apply Part.nilc)))
                intro h27_0
                first | rw [if_neg h27_0] at ho1 | rw [if_pos (Decidable.not_not.1 h27_0)] at ho1 | skip
                as_aux_lemma =>
                  refine SPL_y (y_assign rfl) rfl ?_
                  refine SPL_nil ?_
                  refine thenP_n ?_
                  refine SP_cond_f rfl ?_
                  refine SP_region ?_
                  refine SPL_if (y_eql rfl rfl) rfl ?_ ?_
                  · intro h28_0
                    first | rw [if_pos h28_0] at ho1 | rw [if_neg h28_0] at ho1 | skip
                    as_aux_lemma =>
                      refine SPL_y (y_assign rfl) rfl ?_
                      refine SPL_nil ?_
                      refine thenP_n ?_
                      refine SP_cond_t rfl ?_
                      refine SP_seq ?_
                      unfold sJmp getT at ho1
                      obtain ⟨t29, ht29, ho1⟩ := bnd1 ho1
                      have hl29 : t29.stack.length ≤ 1000000 := Decidable.byContradiction fun q => by rw [if_neg q] at ho1; cases ho1
                      rw [if_pos hl29] at ho1
                      obtain ⟨y, hy, ho1⟩ := bnd1 ho1
                      obtain ⟨g29, oa29, oc29, hg29, _, hrow29, hst29, _⟩ := hM.thr ht29
                      obtain ⟨sq, hsa, hsc⟩ := hst29 _ _ (getI_last hy hl29)
                      have hy0 := (List.getElem?_eq_some_iff.1 hy).1
                      have hstk : ∀ H : Hp, Cell (seg :: H) b.thb (0 + th * 5 + 2) (.slice (some ⟨sq, 0, none⟩) t29.stack.length g29.sc) := fun H => hsa ▸ hrow29 H 2 _ rfl
                      refine SP_draw 12 [(0, 0), (1, 0), (2, 0), (4, 0), (5, 0), (6, 0), (3, 1), (7, 1), (8, 0), (9, 0), (10, 0), (11, 1), (12, 3), (13, 0)] mixed (by kernel_rfl) (fun _ _ _ _ _ h => h) (Part.refl _) ?_
                      refine SPO_p rfl (y_move rfl) rfl ?_
                      refine SPO_p rfl (y_nil rfl) rfl ?_
                      refine SPO_p rfl (y_fa fld_263_2 rfl) rfl ?_
                      refine SPO_p rfl (y_move rfl) rfl ?_
                      refine SPO_p rfl (y_nil rfl) rfl ?_
                      refine SPO_p rfl (y_fa fld_263_2 rfl) rfl ?_
                      refine SPO_h rfl (y_load Tryz.isAgg90 rfl (by repeat (first | exact (hstk _) | apply Cell.tail))) rfl ?_
                      refine SPO_h rfl (y_load Tryz.isAgg90 rfl (by repeat (first | exact (hstk _) | apply Cell.tail))) rfl ?_
                      refine SPO_p rfl (y_len_l Tryz.underlying90 rfl) rfl ?_
                      refine SPO_p rfl (y_sub rfl rfl (by omega)) rfl ?_
                      refine SPO_p rfl (y_ia Tryz.underlying90 Tryz.sizeOf42 rfl rfl (by omega)) rfl ?_
                      refine SPO_h rfl (y_loads Tryz.isAgg42 Tryz.sizeOf42 rfl rfl (by repeat (first | exact (hsc _) | apply Cells.tail))) rfl ?_
                      refine SPO_z (k := 0) rfl rfl (SP1_call (api_Truthy y) Tryz.call102 rfl rfl (by repeat (first | exact Part.nil _ | (apply Part.cons; with_reducible (first | exact P0 | exact P1 | exact P2 | exact P3 | exact P4 | exact P5 | exact P6 | exact P7 | exact P8 | exact P9 | exact P10 | exact P11 | exact P12 | exact P13 | exact P14 | exact P15 | exact P16 | exact P17 | exact P18 | exact P19 | exact P20 | exact P21 | exact P22 | exact P23)) | (apply Part.flat; simp only [List.cons_append, List.nil_append]) | (apply Part.cons; (first | exact P0 | exact P1 | exact P2 | exact P3 | exact P4 | exact P5 | exact P6 | exact P7 | exact P8 | exact P9 | exact P10 | exact P11 | exact P12 | exact P13 | exact P14 | exact P15 | exact P16 | exact P17 | exact P18 | exact P19 | exact P20 | exact P21 | exact P22 | exact P23)) | (apply Part.nilc))) ?_)
                      rintro v post H' ⟨rfl, rfl⟩ hH
                      try simp only [List.cons_append, List.nil_append] at hH
                      subst hH
                      generalize htr : truthy y = tr at ho1 ⊢
                      refine SPO_p rfl (y_assign rfl) rfl ?_
                      refine SPO_nil ?_
                      refine thenP_n ?_
                      refine SP_seq ?_
                      refine SP_region ?_
                      refine SPL_y (y_move rfl) rfl ?_
                      refine SPL_y (y_fa fld_324_0 rfl) rfl ?_
                      refine SPL_y (y_load Tryz.isAgg5 rfl (by repeat (first | exact Cell.amid hpre rfl | exact Cell.head rfl | apply Cell.tail))) rfl ?_
                      refine SPL_y (y_eql rfl rfl) rfl ?_
                      refine SPL_y (y_beqB Tryz.underlying4 rfl rfl) rfl ?_
                      refine SPL_nil ?_
                      refine thenP_n ?_
                      refine SP_cond_b rfl ?_ ?_
                      · intro hc187
                        first | rw [if_pos hc187] at ho1 | rw [if_neg hc187] at ho1 | skip
                        as_aux_lemma =>
                          rw [if_pos (by rw [show decide (op = 24) = true from decide_eq_true (by omega)] at hc187; simpa using hc187)] at ho1
                          refine SP_region ?_
                          refine SPL_y (y_move rfl) rfl ?_
                          refine SPL_y (y_move rfl) rfl ?_
                          refine SPL_y (y_move rfl) rfl ?_
                          obtain ⟨oj, hqj, ho1⟩ := bndO ho1
                          refine SPL_one rfl (SP1_callp (vm_jump b ph _ hfv hqj _ hM) Tryz.call263 rfl rfl (by repeat (first | exact Part.nil _ | (apply Part.cons; with_reducible (first | exact P0 | exact P1 | exact P2 | exact P3 | exact P4 | exact P5 | exact P6 | exact P7 | exact P8 | exact P9 | exact P10 | exact P11 | exact P12 | exact P13 | exact P14 | exact P15 | exact P16 | exact P17 | exact P18 | exact P19 | exact P20 | exact P21 | exact P22 | exact P23)) | (apply Part.flat; simp only [List.cons_append, List.nil_append]) | (apply Part.cons; (first | exact P0 | exact P1 | exact P2 | exact P3 | exact P4 | exact P5 | exact P6 | exact P7 | exact P8 | exact P9 | exact P10 | exact P11 | exact P12 | exact P13 | exact P14 | exact P15 | exact P16 | exact P17 | exact P18 | exact P19 | exact P20 | exact P21 | exact P22 | exact P23)) | (apply Part.nilc))) ?_ ?_)
                          · rintro c post H' ⟨ex, hhx, sgx, rfl, rfl, hkx, hMx, rfl⟩ hH
                            try simp only [List.cons_append, List.nil_append] at hH
                            subst hH
                            refine inBlockP_panic (inBlockP_panic (thenP_panic (inBlockP_panic (thenP_panic (noGotoP_panic (bodyP_panic (H' := [sgx, escS ex]) (by repeat (first | exact Part.nil _ | (apply Part.cons; with_reducible (first | exact P0 | exact P1 | exact P2 | exact P3 | exact P4 | exact P5 | exact P6 | exact P7 | exact P8 | exact P9 | exact P10 | exact P11 | exact P12 | exact P13 | exact P14 | exact P15 | exact P16 | exact P17 | exact P18 | exact P19 | exact P20 | exact P21 | exact P22 | exact P23)) | (apply Part.flat; simp only [List.cons_append, List.nil_append]) | (apply Part.cons; (first | exact P0 | exact P1 | exact P2 | exact P3 | exact P4 | exact P5 | exact P6 | exact P7 | exact P8 | exact P9 | exact P10 | exact P11 | exact P12 | exact P13 | exact P14 | exact P15 | exact P16 | exact P17 | exact P18 | exact P19 | exact P20 | exact P21 | exact P22 | exact P23)) | (apply Part.nilc))) ?_))))))
                            rw [bindO_esc] at ho1
                            injection ho1 with ho1
                            subst ho1
                            rw [bindO_esc] at hP
                            injection hP with hP
                            subst hP
                            exact ⟨ex, hhx, sgx, rfl, rfl, hMx, rfl⟩
                          rintro v post H' ⟨aj, mj, rfl, rfl, hhj, sgj, hkj, hM, rfl⟩ hH
                          try simp only [List.cons_append, List.nil_append] at hH
                          subst hH
                          dsimp only [bindO] at ho1
                          refine SPL_nil ?_
                          refine inBlockP_n ?_
                          refine inBlockP_n ?_
                          refine thenP_n ?_
                          injection ho1 with ho1
                          subst ho1
                          dsimp only [bindO] at hP
                          rw [if_neg (by decide)] at hP
                          exact Again.intro ((k, mj, hhj, sgj, e)) (⟨hP, hM⟩) (by dsimp only; omega) (by repeat (first | exact Sub.nil _ | refine Sub.cons rfl ?_)) (by repeat (first | exact Part.nil _ | (apply Part.cons; with_reducible (first | exact P0 | exact P1 | exact P2 | exact P3 | exact P4 | exact P5 | exact P6 | exact P7 | exact P8 | exact P9 | exact P10 | exact P11 | exact P12 | exact P13 | exact P14 | exact P15 | exact P16 | exact P17 | exact P18 | exact P19 | exact P20 | exact P21 | exact P22 | exact P23)) | (apply Part.flat; simp only [List.cons_append, List.nil_append]) | (apply Part.cons; (first | exact P0 | exact P1 | exact P2 | exact P3 | exact P4 | exact P5 | exact P6 | exact P7 | exact P8 | exact P9 | exact P10 | exact P11 | exact P12 | exact P13 | exact P14 | exact P15 | exact P16 | exact P17 | exact P18 | exact P19 | exact P20 | exact P21 | exact P22 | exact P23)) | (apply Part.nilc)))
                      intro hc187
                      first | rw [if_neg hc187] at ho1 | rw [if_pos (Decidable.not_not.1 hc187)] at ho1 | skip
                      as_aux_lemma =>
                        refine SP_seq ?_
                        rw [if_neg (by rw [show decide (op = 24) = true from decide_eq_true (by omega)] at hc187; simpa using hc187)] at ho1
                        refine SP_region ?_
                        refine SPL_y (y_move rfl) rfl ?_
                        obtain ⟨v32, m32, hq32, ho1⟩ := bnd2 ho1
                        refine SPL_one rfl (SP1_call (vm_pop b ph _ hq32 _ hM) Tryz.call264 rfl rfl (by repeat (first | exact Part.nil _ | (apply Part.cons; with_reducible (first | exact P0 | exact P1 | exact P2 | exact P3 | exact P4 | exact P5 | exact P6 | exact P7 | exact P8 | exact P9 | exact P10 | exact P11 | exact P12 | exact P13 | exact P14 | exact P15 | exact P16 | exact P17 | exact P18 | exact P19 | exact P20 | exact P21 | exact P22 | exact P23)) | (apply Part.flat; simp only [List.cons_append, List.nil_append]) | (apply Part.cons; (first | exact P0 | exact P1 | exact P2 | exact P3 | exact P4 | exact P5 | exact P6 | exact P7 | exact P8 | exact P9 | exact P10 | exact P11 | exact P12 | exact P13 | exact P14 | exact P15 | exact P16 | exact P17 | exact P18 | exact P19 | exact P20 | exact P21 | exact P22 | exact P23)) | (apply Part.nilc))) ?_)
                        rintro v post H' ⟨rfl, sg32, hM, rfl⟩ hH
                        try simp only [List.cons_append, List.nil_append] at hH
                        subst hH
                        refine SPL_nil ?_
                        refine thenP_n ?_
                        unfold outE at ho1
                        obtain ⟨mz, hnp, ho1⟩ := bnd1 ho1
                        obtain ⟨fz, hfz, hrz, hpcz⟩ := nextPc_f hnp
                        obtain ⟨gz, qz, hgz, hqz, hfe⟩ := hfv
                        injection hfe with hfe
                        injection hfe with hfe
                        injection hfe with hfe _
                        subst hfe
                        obtain ⟨prez, postz, sgz, hprez, hupz, hMz⟩ := hM.setPc hfz hpcz hgz hqz
                        refine SP_region ?_
                        refine SPL_y (y_move rfl) rfl ?_
                        refine SPL_y (y_nil rfl) rfl ?_
                        refine SPL_y (y_fa fld_331_1 rfl) rfl ?_
                        refine SPL_y (y_load Tryz.isAgg3 rfl (by repeat (first | exact (hM.frF hfz hgz hqz rfl) | apply Cell.tail))) rfl ?_
                        refine SPL_y (y_add rfl rfl (by omega)) rfl ?_
                        refine SPL_y (y_nil rfl) rfl ?_
                        refine SPL_y (y_fa fld_331_1 rfl) rfl ?_
                        refine SPL_one rfl (SP1_storeM (j := 1) (pre := prez) (cs := frV fz) (post := postz) Tryz.sizeOf3 rfl rfl rfl hprez (by repeat (first | exact hupz _ | apply Upd.tail)) (by rfl) ?_)
                        refine SPL_nil ?_
                        refine inBlockP_n ?_
                        refine inBlockP_n ?_
                        refine thenP_n ?_
                        replace hM := hMz
                        injection ho1 with ho1
                        subst ho1
                        dsimp only [bindO] at hP
                        rw [if_neg (by decide)] at hP
                        exact Again.intro ((k, mz, _, sgz, e)) (⟨hP, hM⟩) (by dsimp only; omega) (by repeat (first | exact Sub.nil _ | refine Sub.cons rfl ?_)) (by repeat (first | exact Part.nil _ | (apply Part.cons; with_reducible (first | exact P0 | exact P1 | exact P2 | exact P3 | exact P4 | exact P5 | exact P6 | exact P7 | exact P8 | exact P9 | exact P10 | exact P11 | exact P12 | exact P13 | exact P14 | exact P15 | exact P16 | exact P17 | exact P18 | exact P19 | exact P20 | exact P21 | exact P22 | exact P23)) | (apply Part.flat; simp only [List.cons_append, List.nil_append]) | (apply Part.cons; (first | exact P0 | exact P1 | exact P2 | exact P3 | exact P4 | exact P5 | exact P6 | exact P7 | exact P8 | exact P9 | exact P10 | exact P11 | exact P12 | exact P13 | exact P14 | exact P15 | exact P16 | exact P17 | exact P18 | exact P19 | exact P20 | exact P21 | exact P22 | exact P23)) | (apply Part.nilc)))
                  intro h28_0
                  first | rw [if_neg h28_0] at ho1 | rw [if_pos (Decidable.not_not.1 h28_0)] at ho1 | skip
                  as_aux_lemma =>
                    refine SPL_y (y_assign rfl) rfl ?_
                    refine SPL_nil ?_
                    refine thenP_n ?_
                    refine SP_cond_f rfl ?_
                    refine SP_seq ?_
                    refine SP_region ?_
                    refine SPL_if (y_eql rfl rfl) rfl ?_ ?_
                    · intro h34_0
                      first | rw [if_pos h34_0] at ho1 | rw [if_neg h34_0] at ho1 | skip
                      omega
                    intro h34_0
                    first | rw [if_neg h34_0] at ho1 | rw [if_pos (Decidable.not_not.1 h34_0)] at ho1 | skip
                    as_aux_lemma =>
                      refine SPL_y (y_assign rfl) rfl ?_
                      refine SPL_nil ?_
                      refine thenP_n ?_
                      refine SP_cond_f rfl ?_
                      refine SP_seq ?_
                      refine SP_region ?_
                      refine SPL_ifn (y_eql rfl rfl) rfl ?_ ?_
                      · intro h37_0
                        first | rw [if_neg h37_0] at ho1 | rw [if_pos (Decidable.not_not.1 h37_0)] at ho1 | skip
                        as_aux_lemma =>
                          refine SPL_y (y_assign rfl) rfl ?_
                          refine SPL_nil ?_
                          refine thenP_n ?_
                          refine SP_cond_f rfl ?_
                          refine SP_seq ?_
                          refine SP_region ?_
                          refine SPL_y (y_move rfl) rfl ?_
                          refine SPL_y (y_move rfl) rfl ?_
                          refine SPL_y (y_move rfl) rfl ?_
                          refine SPL_y (y_move rfl) rfl ?_
                          refine SPL_y (y_move rfl) rfl ?_
                          refine SPL_y (y_fa fld_324_0 rfl) rfl ?_
                          refine SPL_y (y_load Tryz.isAgg5 rfl (by repeat (first | exact Cell.amid hpre rfl | exact Cell.head rfl | apply Cell.tail))) rfl ?_
                          refine SPL_y (y_move rfl) rfl ?_
                          obtain ⟨o18, hq18, ho1⟩ := bndO ho1
                          refine SPL_one rfl (SP1_callp (vm_plain hN b ph hh hfv hpj hjb hpv hq18 _ hM) Tryz.call267 rfl rfl (by repeat (first | exact Part.nil _ | (apply Part.cons; with_reducible (first | exact P0 | exact P1 | exact P2 | exact P3 | exact P4 | exact P5 | exact P6 | exact P7 | exact P8 | exact P9 | exact P10 | exact P11 | exact P12 | exact P13 | exact P14 | exact P15 | exact P16 | exact P17 | exact P18 | exact P19 | exact P20 | exact P21 | exact P22 | exact P23)) | (apply Part.flat; simp only [List.cons_append, List.nil_append]) | (apply Part.cons; (first | exact P0 | exact P1 | exact P2 | exact P3 | exact P4 | exact P5 | exact P6 | exact P7 | exact P8 | exact P9 | exact P10 | exact P11 | exact P12 | exact P13 | exact P14 | exact P15 | exact P16 | exact P17 | exact P18 | exact P19 | exact P20 | exact P21 | exact P22 | exact P23)) | (apply Part.nilc))) ?_ ?_)
                          · rintro c post H' ⟨ex, hhx, sgx, rfl, rfl, hkx, hMx, rfl⟩ hH
                            try simp only [List.cons_append, List.nil_append] at hH
                            subst hH
                            refine thenP_panic (inBlockP_panic (inBlockP_panic (thenP_panic (inBlockP_panic (thenP_panic (noGotoP_panic (bodyP_panic (H' := [sgx, escS ex]) (by repeat (first | exact Part.nil _ | (apply Part.cons; with_reducible (first | exact P0 | exact P1 | exact P2 | exact P3 | exact P4 | exact P5 | exact P6 | exact P7 | exact P8 | exact P9 | exact P10 | exact P11 | exact P12 | exact P13 | exact P14 | exact P15 | exact P16 | exact P17 | exact P18 | exact P19 | exact P20 | exact P21 | exact P22 | exact P23)) | (apply Part.flat; simp only [List.cons_append, List.nil_append]) | (apply Part.cons; (first | exact P0 | exact P1 | exact P2 | exact P3 | exact P4 | exact P5 | exact P6 | exact P7 | exact P8 | exact P9 | exact P10 | exact P11 | exact P12 | exact P13 | exact P14 | exact P15 | exact P16 | exact P17 | exact P18 | exact P19 | exact P20 | exact P21 | exact P22 | exact P23)) | (apply Part.nilc))) ?_)))))))
                            rw [bindO_esc] at ho1
                            injection ho1 with ho1
                            subst ho1
                            rw [bindO_esc] at hP
                            injection hP with hP
                            subst hP
                            exact ⟨ex, hhx, sgx, rfl, rfl, hMx, rfl⟩
                          rintro v post H' ⟨a18, m18, rfl, rfl, hh18, sg18, hk18, hM, rfl⟩ hH
                          try simp only [List.cons_append, List.nil_append] at hH
                          subst hH
                          dsimp only [bindO] at ho1
                          refine SPL_nil ?_
                          refine thenP_n ?_
                          unfold outE at ho1
                          obtain ⟨mz, hnp, ho1⟩ := bnd1 ho1
                          obtain ⟨fz, hfz, hrz, hpcz⟩ := nextPc_f hnp
                          obtain ⟨gz, qz, hgz, hqz, hfe⟩ := hfv.keep hk18
                          injection hfe with hfe
                          injection hfe with hfe
                          injection hfe with hfe _
                          subst hfe
                          obtain ⟨prez, postz, sgz, hprez, hupz, hMz⟩ := hM.setPc hfz hpcz hgz hqz
                          refine SP_region ?_
                          refine SPL_y (y_move rfl) rfl ?_
                          refine SPL_y (y_nil rfl) rfl ?_
                          refine SPL_y (y_fa fld_331_1 rfl) rfl ?_
                          refine SPL_y (y_load Tryz.isAgg3 rfl (by repeat (first | exact (hM.frF hfz hgz hqz rfl) | apply Cell.tail))) rfl ?_
                          refine SPL_y (y_add rfl rfl (by omega)) rfl ?_
                          refine SPL_y (y_nil rfl) rfl ?_
                          refine SPL_y (y_fa fld_331_1 rfl) rfl ?_
                          refine SPL_one rfl (SP1_storeM (j := 1) (pre := prez) (cs := frV fz) (post := postz) Tryz.sizeOf3 rfl rfl rfl hprez (by repeat (first | exact hupz _ | apply Upd.tail)) (by rfl) ?_)
                          skip
                          refine SPL_nil ?_
                          refine inBlockP_n ?_
                          refine inBlockP_n ?_
                          refine thenP_n ?_
                          replace hM := hMz
                          injection ho1 with ho1
                          subst ho1
                          dsimp only [bindO] at hP
                          rw [if_neg (by decide)] at hP
                          exact Again.intro ((k, mz, _, sgz, e)) (⟨hP, hM⟩) (by dsimp only; omega) (by repeat (first | exact Sub.nil _ | refine Sub.cons rfl ?_)) (by repeat (first | exact Part.nil _ | (apply Part.cons; with_reducible (first | exact P0 | exact P1 | exact P2 | exact P3 | exact P4 | exact P5 | exact P6 | exact P7 | exact P8 | exact P9 | exact P10 | exact P11 | exact P12 | exact P13 | exact P14 | exact P15 | exact P16 | exact P17 | exact P18 | exact P19 | exact P20 | exact P21 | exact P22 | exact P23)) | (apply Part.flat; simp only [List.cons_append, List.nil_append]) | (apply Part.cons; (first | exact P0 | exact P1 | exact P2 | exact P3 | exact P4 | exact P5 | exact P6 | exact P7 | exact P8 | exact P9 | exact P10 | exact P11 | exact P12 | exact P13 | exact P14 | exact P15 | exact P16 | exact P17 | exact P18 | exact P19 | exact P20 | exact P21 | exact P22 | exact P23)) | (apply Part.nilc)))
                      intro h37_0
                      first | rw [if_pos h37_0] at ho1 | rw [if_neg h37_0] at ho1 | skip
                      as_aux_lemma =>
                        refine SPL_y (y_assign rfl) rfl ?_
                        refine SPL_nil ?_
                        refine thenP_n ?_
                        refine SP_cond_t rfl ?_
                        refine SP_seq ?_
                        refine SP_region ?_
                        refine SPL_y (y_move rfl) rfl ?_
                        refine SPL_y (y_move rfl) rfl ?_
                        refine SPL_y (y_move rfl) rfl ?_
                        obtain ⟨e38, m38, hq38, ho1⟩ := bnd2 ho1
                        refine SPL_one rfl (SP1_call (vm_ret b ph hh hfv hq38 _ hM) Tryz.call266 rfl rfl (by repeat (first | exact Part.nil _ | (apply Part.cons; with_reducible (first | exact P0 | exact P1 | exact P2 | exact P3 | exact P4 | exact P5 | exact P6 | exact P7 | exact P8 | exact P9 | exact P10 | exact P11 | exact P12 | exact P13 | exact P14 | exact P15 | exact P16 | exact P17 | exact P18 | exact P19 | exact P20 | exact P21 | exact P22 | exact P23)) | (apply Part.flat; simp only [List.cons_append, List.nil_append]) | (apply Part.cons; (first | exact P0 | exact P1 | exact P2 | exact P3 | exact P4 | exact P5 | exact P6 | exact P7 | exact P8 | exact P9 | exact P10 | exact P11 | exact P12 | exact P13 | exact P14 | exact P15 | exact P16 | exact P17 | exact P18 | exact P19 | exact P20 | exact P21 | exact P22 | exact P23)) | (apply Part.nilc))) ?_)
                        rintro v post H' ⟨rfl, hh38, sg38, hk38, hM, rfl⟩ hH
                        try simp only [List.cons_append, List.nil_append] at hH
                        subst hH
                        refine SPL_one rfl (SP1_storeAll Tryz.sizeOf184 rfl rfl rfl rfl rfl (by first | exact U0 | exact U1 | exact U2 | exact U3 | exact U4 | exact U5 | exact U6 | exact U7 | exact U8 | exact U9 | exact U10 | exact U11 | exact U12 | exact U13 | exact U14 | exact U15 | exact U16 | exact U17 | exact U18 | exact U19 | exact U20 | exact U21 | exact U22 | exact U23) (by rfl) ?_)
                        refine SPL_nil ?_
                        refine thenP_n ?_
                        refine SP_seq ?_
                        refine SP_region ?_
                        refine SPL_y (y_fa fld_184_0 rfl) rfl ?_
                        refine SPL_y (y_load Tryz.isAgg3 rfl (by repeat (first | exact Cell.amid hpre rfl | exact Cell.head rfl | apply Cell.tail))) rfl ?_
                        refine SPL_ifn (y_neq rfl rfl) rfl ?_ ?_
                        · intro h39_2
                          first | rw [if_neg h39_2] at ho1 | rw [if_pos (Decidable.not_not.1 h39_2)] at ho1 | skip
                          refine SPL_nil ?_
                          refine thenP_n ?_
                          refine SP_cond_f rfl ?_
                          refine SP_skip ?_
                          refine inBlockP_n ?_
                          refine inBlockP_n ?_
                          refine thenP_n ?_
                          injection ho1 with ho1
                          subst ho1
                          dsimp only [bindO] at hP
                          rw [if_neg h39_2] at hP
                          exact Again.intro ((k, m38, hh38, sg38, e38)) (⟨hP, hM⟩) (by dsimp only; omega) (by repeat (first | exact Sub.nil _ | refine Sub.cons rfl ?_)) (by repeat (first | exact Part.nil _ | (apply Part.cons; with_reducible (first | exact P0 | exact P1 | exact P2 | exact P3 | exact P4 | exact P5 | exact P6 | exact P7 | exact P8 | exact P9 | exact P10 | exact P11 | exact P12 | exact P13 | exact P14 | exact P15 | exact P16 | exact P17 | exact P18 | exact P19 | exact P20 | exact P21 | exact P22 | exact P23)) | (apply Part.flat; simp only [List.cons_append, List.nil_append]) | (apply Part.cons; (first | exact P0 | exact P1 | exact P2 | exact P3 | exact P4 | exact P5 | exact P6 | exact P7 | exact P8 | exact P9 | exact P10 | exact P11 | exact P12 | exact P13 | exact P14 | exact P15 | exact P16 | exact P17 | exact P18 | exact P19 | exact P20 | exact P21 | exact P22 | exact P23)) | (apply Part.nilc)))
                        intro h39_2
                        first | rw [if_pos h39_2] at ho1 | rw [if_neg h39_2] at ho1 | skip
                        as_aux_lemma =>
                          refine SPL_nil ?_
                          refine thenP_n ?_
                          refine SP_cond_t rfl ?_
                          refine SP_exit ?_
                          refine inBlockP_miss rfl ?_
                          refine inBlockP_miss rfl ?_
                          refine thenP_exit ?_
                          refine inBlockP_hit ?_
                          refine thenP_n ?_
                          refine SP_seq ?_
                          refine SP_region ?_
                          refine SPL_y (y_loads Tryz.isAgg184 Tryz.sizeOf184 rfl rfl (by repeat (first | exact Cells.all _ | exact Cells.amid hpre rfl (by decide) | exact Cells.head rfl | apply Cells.tail))) rfl ?_
                          refine SPL_one rfl (SP1_storeAll Tryz.sizeOf184 rfl rfl rfl rfl rfl (by first | exact U0 | exact U1 | exact U2 | exact U3 | exact U4 | exact U5 | exact U6 | exact U7 | exact U8 | exact U9 | exact U10 | exact U11 | exact U12 | exact U13 | exact U14 | exact U15 | exact U16 | exact U17 | exact U18 | exact U19 | exact U20 | exact U21 | exact U22 | exact U23) (by rfl) ?_)
                          refine SPL_nil ?_
                          refine thenP_n ?_
                          refine SP_ret ?_
                          refine noGotoP_ret (bodyP_ret (H' := [sg38]) (ResC rfl rfl Tryz.isAgg184 Tryz.sizeOf184 rfl (by repeat (first | exact Cells.all _ | exact Cells.amid hpre rfl (by decide) | exact Cells.head rfl | apply Cells.tail))) (by repeat (first | exact Part.nil _ | (apply Part.cons; with_reducible (first | exact P0 | exact P1 | exact P2 | exact P3 | exact P4 | exact P5 | exact P6 | exact P7 | exact P8 | exact P9 | exact P10 | exact P11 | exact P12 | exact P13 | exact P14 | exact P15 | exact P16 | exact P17 | exact P18 | exact P19 | exact P20 | exact P21 | exact P22 | exact P23)) | (apply Part.flat; simp only [List.cons_append, List.nil_append]) | (apply Part.cons; (first | exact P0 | exact P1 | exact P2 | exact P3 | exact P4 | exact P5 | exact P6 | exact P7 | exact P8 | exact P9 | exact P10 | exact P11 | exact P12 | exact P13 | exact P14 | exact P15 | exact P16 | exact P17 | exact P18 | exact P19 | exact P20 | exact P21 | exact P22 | exact P23)) | (apply Part.nilc))) ?_)
                          injection ho1 with ho1
                          subst ho1
                          dsimp only [bindO] at hP
                          rw [if_pos h39_2] at hP
                          injection hP with hP
                          subst hP
                          exact ⟨_, _, rfl, rfl, _, _, hM, rfl⟩

end Go.Sl
