/- Walks: package numm, add (made by program out of short notes) -/
import Derived.Test.Qxb6500573aGreatDoorWNmB
namespace Go.Sl
open Go Go.Wl Go.Proofs
open Go.Nm
set_option maxRecDepth 100000
set_option linter.unusedVariables false
set_option linter.unusedSimpArgs false
theorem w_zz {a b : Nat} (ha : a < 18446744073709551616) (hb : b < 18446744073709551616) (za : isZW a) (zb : isZW b) : bitI .and .u64 (a : Int) (b : Int) = ((if a = b then a else 0 : Nat) : Int) := by
  have h : ∀ x, x < 18446744073709551616 → isZW x → x = 0 ∨ x = 9223372036854775808 := fun x hx hz => by unfold isZW mgW at hz; omega
  rcases h a ha za with rfl | rfl <;> rcases h b hb zb with rfl | rfl <;> decide
theorem sgB_inj {s t : Bool} : ((sgB s : Nat) : Int) = ((sgB t : Nat) : Int) ↔ s = t := by cases s <;> cases t <;> decide
theorem sgB_lt (s : Bool) : sgB s < 18446744073709551616 := by cases s <;> decide
theorem adF_a {sa sb : Bool} {ma mb : Nat} {eb : Int} {st : Bool} (h : sa = sb) : adF sa sb ma mb eb st = pkM sa (ma + mb) eb st := by unfold adF; rw [if_pos h]
theorem adF_b {sa sb : Bool} {ma mb : Nat} {eb : Int} (h : ¬ sa = sb) (h2 : ma = mb) : adF sa sb ma mb eb false = 0 := by unfold adF; rw [if_neg h, if_pos ⟨h2, rfl⟩]
theorem adF_c {sa sb : Bool} {ma mb : Nat} {eb : Int} {st : Bool} (h : ¬ sa = sb) (h2 : ma < mb) : adF sa sb ma mb eb st = pkM sb (mb - ma) eb false := by unfold adF; rw [if_neg h, if_neg (fun q => by omega), if_pos h2]
theorem adF_d {sa sb : Bool} {ma mb : Nat} {eb : Int} (h : ¬ sa = sb) (h2 : ¬ ma < mb) : adF sa sb ma mb eb true = pkM sa (ma - mb - 1) eb true := by unfold adF; rw [if_neg h, if_neg (fun q => by cases q.2), if_neg h2, if_pos rfl]
theorem adF_e {sa sb : Bool} {ma mb : Nat} {eb : Int} (h : ¬ sa = sb) (h1 : ¬ ma = mb) (h2 : ¬ ma < mb) : adF sa sb ma mb eb false = pkM sa (ma - mb) eb false := by unfold adF; rw [if_neg h, if_neg (fun q => h1 q.1), if_neg h2, if_neg (by decide)]
theorem shlD {x d : Nat} (hx : x < 9007199254740992) (hd : d ≤ 10) : IntKind.u64.wrap ((x : Int) * 2 ^ (min ((d : Int)).toNat IntKind.u64.bits)) = ((x * 2 ^ d : Nat) : Int) ∧ x * 2 ^ d < 9223372036854775808 := by
  have h1 : 2 ^ d ≤ 2 ^ 10 := Nat.pow_le_pow_right (by decide) hd
  have h2 : x * 2 ^ d ≤ x * 2 ^ 10 := Nat.mul_le_mul_left _ h1
  rw [w_shl (by omega), Nat.mod_eq_of_lt (by omega)]
  exact ⟨rfl, by omega⟩
theorem u64sub {a b : Nat} (h : b ≤ a) (ha : a < 18446744073709551616) : IntKind.u64.wrap ((a : Int) - (b : Int)) = ((a - b : Nat) : Int) := by
  rw [show (a : Int) - (b : Int) = ((a - b : Nat) : Int) by omega]; exact u64n (by omega)
theorem u64add {a b : Nat} (h : a + b < 18446744073709551616) : IntKind.u64.wrap ((a : Int) + (b : Int)) = ((a + b : Nat) : Int) := by
  rw [← Int.natCast_add]; exact u64n h
theorem u64i {d : Int} {k : Nat} (h : d = k) (hk : k < 18446744073709551616) : IntKind.u64.wrap d = ((k : Nat) : Int) := by subst h; exact u64n hk

theorem nm_add (a b : Nat) (ha : a < 18446744073709551616) (hb : b < 18446744073709551616) : Spec Tryz.prog 164 [.int .u64 ((a : Nat) : Int), .int .u64 ((b : Nat) : Int)] [] (Ret fun v H => v = .int .u64 ((addW a b : Nat) : Int) ∧ H = []) := by
  refine Spec_enter Tryz.func164 rfl Tryz.ntmps164 rfl ?_
  show SP _ _ _ _ _ [(0, _), (1, _)] _
  refine SP_seq ?_
  refine SP_region ?_
  refine SPL_y (y_assign rfl) rfl ?_
  refine SPL_nil ?_
  refine thenP_n ?_
  refine SP_seq ?_
  refine SP_seq ?_
  refine SP_region ?_
  refine SPL_y (y_move rfl) rfl ?_
  refine SPL_y (y_move rfl) rfl ?_
  refine SPL_one rfl (SP1_call (nm_anyNaN a b ha hb) Tryz.call161 rfl rfl (by repeat (first | exact Part.nil _ | (apply Part.cons; with_reducible (first | exact P0 | exact P1 | exact P2 | exact P3 | exact P4 | exact P5 | exact P6 | exact P7 | exact P8 | exact P9 | exact P10 | exact P11 | exact P12 | exact P13 | exact P14 | exact P15 | exact P16 | exact P17 | exact P18 | exact P19 | exact P20 | exact P21 | exact P22 | exact P23)) | (apply Part.flat; simp only [List.cons_append, List.nil_append]) | (apply Part.cons; (first | exact P0 | exact P1 | exact P2 | exact P3 | exact P4 | exact P5 | exact P6 | exact P7 | exact P8 | exact P9 | exact P10 | exact P11 | exact P12 | exact P13 | exact P14 | exact P15 | exact P16 | exact P17 | exact P18 | exact P19 | exact P20 | exact P21 | exact P22 | exact P23)) | (apply Part.nilc))) ?_)
  rintro v post H' ⟨rfl, rfl⟩ hH
  try simp only [List.cons_append, List.nil_append] at hH
  subst hH
  generalize hn : decide (isNaNW a ∨ isNaNW b) = qn
  rcases qn with _ | _
  · refine SPL_nil ?_
    refine thenP_n ?_
    refine SP_cond_f rfl ?_
    refine SP_skip ?_
    refine thenP_n ?_
    refine SP_seq ?_
    refine SP_seq ?_
    refine SP_region ?_
    refine SPL_y (y_move rfl) rfl ?_
    refine SPL_one rfl (SP1_call (nm_isInf a ha) Tryz.call225 rfl rfl (by repeat (first | exact Part.nil _ | (apply Part.cons; with_reducible (first | exact P0 | exact P1 | exact P2 | exact P3 | exact P4 | exact P5 | exact P6 | exact P7 | exact P8 | exact P9 | exact P10 | exact P11 | exact P12 | exact P13 | exact P14 | exact P15 | exact P16 | exact P17 | exact P18 | exact P19 | exact P20 | exact P21 | exact P22 | exact P23)) | (apply Part.flat; simp only [List.cons_append, List.nil_append]) | (apply Part.cons; (first | exact P0 | exact P1 | exact P2 | exact P3 | exact P4 | exact P5 | exact P6 | exact P7 | exact P8 | exact P9 | exact P10 | exact P11 | exact P12 | exact P13 | exact P14 | exact P15 | exact P16 | exact P17 | exact P18 | exact P19 | exact P20 | exact P21 | exact P22 | exact P23)) | (apply Part.nilc))) ?_)
    rintro v post H' ⟨rfl, rfl⟩ hH
    try simp only [List.cons_append, List.nil_append] at hH
    subst hH
    generalize hi : decide (isInfW a) = qi
    rcases qi with _ | _
    · refine SPL_nil ?_
      refine thenP_n ?_
      refine SP_cond_f rfl ?_
      refine SP_skip ?_
      refine thenP_n ?_
      refine SP_seq ?_
      refine SP_seq ?_
      refine SP_region ?_
      refine SPL_y (y_move rfl) rfl ?_
      refine SPL_one rfl (SP1_call (nm_isInf b hb) Tryz.call225 rfl rfl (by repeat (first | exact Part.nil _ | (apply Part.cons; with_reducible (first | exact P0 | exact P1 | exact P2 | exact P3 | exact P4 | exact P5 | exact P6 | exact P7 | exact P8 | exact P9 | exact P10 | exact P11 | exact P12 | exact P13 | exact P14 | exact P15 | exact P16 | exact P17 | exact P18 | exact P19 | exact P20 | exact P21 | exact P22 | exact P23)) | (apply Part.flat; simp only [List.cons_append, List.nil_append]) | (apply Part.cons; (first | exact P0 | exact P1 | exact P2 | exact P3 | exact P4 | exact P5 | exact P6 | exact P7 | exact P8 | exact P9 | exact P10 | exact P11 | exact P12 | exact P13 | exact P14 | exact P15 | exact P16 | exact P17 | exact P18 | exact P19 | exact P20 | exact P21 | exact P22 | exact P23)) | (apply Part.nilc))) ?_)
      rintro v post H' ⟨rfl, rfl⟩ hH
      try simp only [List.cons_append, List.nil_append] at hH
      subst hH
      generalize hj : decide (isInfW b) = qj
      rcases qj with _ | _
      · refine SPL_nil ?_
        refine thenP_n ?_
        refine SP_cond_f rfl ?_
        refine SP_skip ?_
        refine thenP_n ?_
        refine SP_seq ?_
        refine SP_seq ?_
        refine SP_region ?_
        refine SPL_y (y_move rfl) rfl ?_
        refine SPL_y (y_move rfl) rfl ?_
        refine SPL_one rfl (SP1_call (nm_bothZero a b ha hb) Tryz.call162 rfl rfl (by repeat (first | exact Part.nil _ | (apply Part.cons; with_reducible (first | exact P0 | exact P1 | exact P2 | exact P3 | exact P4 | exact P5 | exact P6 | exact P7 | exact P8 | exact P9 | exact P10 | exact P11 | exact P12 | exact P13 | exact P14 | exact P15 | exact P16 | exact P17 | exact P18 | exact P19 | exact P20 | exact P21 | exact P22 | exact P23)) | (apply Part.flat; simp only [List.cons_append, List.nil_append]) | (apply Part.cons; (first | exact P0 | exact P1 | exact P2 | exact P3 | exact P4 | exact P5 | exact P6 | exact P7 | exact P8 | exact P9 | exact P10 | exact P11 | exact P12 | exact P13 | exact P14 | exact P15 | exact P16 | exact P17 | exact P18 | exact P19 | exact P20 | exact P21 | exact P22 | exact P23)) | (apply Part.nilc))) ?_)
        rintro v post H' ⟨rfl, rfl⟩ hH
        try simp only [List.cons_append, List.nil_append] at hH
        subst hH
        generalize hz : decide (isZW a ∧ isZW b) = qz
        rcases qz with _ | _
        · refine SPL_nil ?_
          refine thenP_n ?_
          refine SP_cond_f rfl ?_
          refine SP_skip ?_
          refine thenP_n ?_
          refine SP_seq ?_
          refine SP_seq ?_
          refine SP_region ?_
          refine SPL_y (y_move rfl) rfl ?_
          refine SPL_one rfl (SP1_call (nm_isZero a ha) Tryz.call226 rfl rfl (by repeat (first | exact Part.nil _ | (apply Part.cons; with_reducible (first | exact P0 | exact P1 | exact P2 | exact P3 | exact P4 | exact P5 | exact P6 | exact P7 | exact P8 | exact P9 | exact P10 | exact P11 | exact P12 | exact P13 | exact P14 | exact P15 | exact P16 | exact P17 | exact P18 | exact P19 | exact P20 | exact P21 | exact P22 | exact P23)) | (apply Part.flat; simp only [List.cons_append, List.nil_append]) | (apply Part.cons; (first | exact P0 | exact P1 | exact P2 | exact P3 | exact P4 | exact P5 | exact P6 | exact P7 | exact P8 | exact P9 | exact P10 | exact P11 | exact P12 | exact P13 | exact P14 | exact P15 | exact P16 | exact P17 | exact P18 | exact P19 | exact P20 | exact P21 | exact P22 | exact P23)) | (apply Part.nilc))) ?_)
          rintro v post H' ⟨rfl, rfl⟩ hH
          try simp only [List.cons_append, List.nil_append] at hH
          subst hH
          generalize hza : decide (isZW a) = qa
          rcases qa with _ | _
          · refine SPL_nil ?_
            refine thenP_n ?_
            refine SP_cond_f rfl ?_
            refine SP_skip ?_
            refine thenP_n ?_
            refine SP_seq ?_
            refine SP_seq ?_
            refine SP_region ?_
            refine SPL_y (y_move rfl) rfl ?_
            refine SPL_one rfl (SP1_call (nm_isZero b hb) Tryz.call226 rfl rfl (by repeat (first | exact Part.nil _ | (apply Part.cons; with_reducible (first | exact P0 | exact P1 | exact P2 | exact P3 | exact P4 | exact P5 | exact P6 | exact P7 | exact P8 | exact P9 | exact P10 | exact P11 | exact P12 | exact P13 | exact P14 | exact P15 | exact P16 | exact P17 | exact P18 | exact P19 | exact P20 | exact P21 | exact P22 | exact P23)) | (apply Part.flat; simp only [List.cons_append, List.nil_append]) | (apply Part.cons; (first | exact P0 | exact P1 | exact P2 | exact P3 | exact P4 | exact P5 | exact P6 | exact P7 | exact P8 | exact P9 | exact P10 | exact P11 | exact P12 | exact P13 | exact P14 | exact P15 | exact P16 | exact P17 | exact P18 | exact P19 | exact P20 | exact P21 | exact P22 | exact P23)) | (apply Part.nilc))) ?_)
            rintro v post H' ⟨rfl, rfl⟩ hH
            try simp only [List.cons_append, List.nil_append] at hH
            subst hH
            generalize hzb : decide (isZW b) = qb
            rcases qb with _ | _
            · refine SPL_nil ?_
              refine thenP_n ?_
              refine SP_cond_f rfl ?_
              refine SP_skip ?_
              refine thenP_n ?_
              refine SP_seq ?_
              refine SP_region ?_
              refine SPL_y (y_move rfl) rfl ?_
              have fa := fin_of (fun q => (of_decide_eq_false hn) (Or.inl q)) (of_decide_eq_false hi)
              have fb := fin_of (fun q => (of_decide_eq_false hn) (Or.inr q)) (of_decide_eq_false hj)
              have hadd : addW a b = if pE a < pE b then addP (sgW b) (sgW a) (pM b) (pM a) (pE b) (pE a) else addP (sgW a) (sgW b) (pM a) (pM b) (pE a) (pE b) := by
                unfold addW
                rw [if_neg (of_decide_eq_false hn), if_neg (of_decide_eq_false hi), if_neg (of_decide_eq_false hj), if_neg (of_decide_eq_false hz), if_neg (of_decide_eq_false hza), if_neg (of_decide_eq_false hzb)]
              refine SPL_one rfl (SP1_call (nm_parts a ha) Tryz.call227 rfl rfl (by repeat (first | exact Part.nil _ | (apply Part.cons; with_reducible (first | exact P0 | exact P1 | exact P2 | exact P3 | exact P4 | exact P5 | exact P6 | exact P7 | exact P8 | exact P9 | exact P10 | exact P11 | exact P12 | exact P13 | exact P14 | exact P15 | exact P16 | exact P17 | exact P18 | exact P19 | exact P20 | exact P21 | exact P22 | exact P23)) | (apply Part.flat; simp only [List.cons_append, List.nil_append]) | (apply Part.cons; (first | exact P0 | exact P1 | exact P2 | exact P3 | exact P4 | exact P5 | exact P6 | exact P7 | exact P8 | exact P9 | exact P10 | exact P11 | exact P12 | exact P13 | exact P14 | exact P15 | exact P16 | exact P17 | exact P18 | exact P19 | exact P20 | exact P21 | exact P22 | exact P23)) | (apply Part.nilc))) ?_)
              rintro v post H' ⟨rfl, rfl⟩ hH
              try simp only [List.cons_append, List.nil_append] at hH
              subst hH
              refine SPL_y (y_move rfl) rfl ?_
              refine SPL_y (y_ext rfl rfl) rfl ?_
              refine SPL_y (y_ext rfl rfl) rfl ?_
              refine SPL_y (y_assign rfl) rfl ?_
              refine SPL_y (y_assign rfl) rfl ?_
              refine SPL_nil ?_
              refine thenP_n ?_
              refine SP_seq ?_
              refine SP_region ?_
              refine SPL_y (y_move rfl) rfl ?_
              refine SPL_one rfl (SP1_call (nm_parts b hb) Tryz.call227 rfl rfl (by repeat (first | exact Part.nil _ | (apply Part.cons; with_reducible (first | exact P0 | exact P1 | exact P2 | exact P3 | exact P4 | exact P5 | exact P6 | exact P7 | exact P8 | exact P9 | exact P10 | exact P11 | exact P12 | exact P13 | exact P14 | exact P15 | exact P16 | exact P17 | exact P18 | exact P19 | exact P20 | exact P21 | exact P22 | exact P23)) | (apply Part.flat; simp only [List.cons_append, List.nil_append]) | (apply Part.cons; (first | exact P0 | exact P1 | exact P2 | exact P3 | exact P4 | exact P5 | exact P6 | exact P7 | exact P8 | exact P9 | exact P10 | exact P11 | exact P12 | exact P13 | exact P14 | exact P15 | exact P16 | exact P17 | exact P18 | exact P19 | exact P20 | exact P21 | exact P22 | exact P23)) | (apply Part.nilc))) ?_)
              rintro v post H' ⟨rfl, rfl⟩ hH
              try simp only [List.cons_append, List.nil_append] at hH
              subst hH
              refine SPL_y (y_move rfl) rfl ?_
              refine SPL_y (y_ext rfl rfl) rfl ?_
              refine SPL_y (y_ext rfl rfl) rfl ?_
              refine SPL_y (y_assign rfl) rfl ?_
              refine SPL_y (y_assign rfl) rfl ?_
              refine SPL_nil ?_
              refine thenP_n ?_
              refine SP_seq ?_
              refine SP_region ?_
              refine SPL_y (y_move rfl) rfl ?_
              refine SPL_y (y_and rfl rfl (w_sg ha)) rfl ?_
              refine SPL_y (y_assign rfl) rfl ?_
              refine SPL_nil ?_
              refine thenP_n ?_
              refine SP_seq ?_
              refine SP_region ?_
              refine SPL_y (y_move rfl) rfl ?_
              refine SPL_y (y_and rfl rfl (w_sg hb)) rfl ?_
              refine SPL_y (y_assign rfl) rfl ?_
              refine SPL_nil ?_
              refine thenP_n ?_
              refine SP_mid (G := Bool × Bool × Nat × Nat × Int × Int) (fun g => [(5, .int .u64 ((g.2.2.1 : Nat) : Int)), (6, I g.2.2.2.2.1), (7, .int .u64 ((g.2.2.2.1 : Nat) : Int)), (8, I g.2.2.2.2.2), (9, .int .u64 ((sgB g.1 : Nat) : Int)), (10, .int .u64 ((sgB g.2.1 : Nat) : Int))]) (fun _ => []) (fun g => addW a b = addP g.1 g.2.1 g.2.2.1 g.2.2.2.1 g.2.2.2.2.1 g.2.2.2.2.2 ∧ g.2.2.1 < 9007199254740992 ∧ g.2.2.2.1 < 9007199254740992 ∧ (-1074 ≤ g.2.2.2.2.2 ∧ g.2.2.2.2.2 ≤ g.2.2.2.2.1 ∧ g.2.2.2.2.1 ≤ 972) ∧ (g.2.2.2.2.2 < g.2.2.2.2.1 → 4503599627370496 ≤ g.2.2.1) ∧ 0 < g.2.2.2.1) ?_ ?_
              · refine SP_seq ?_
                refine SP_region ?_
                refine SPL_y (y_move rfl) rfl ?_
                refine SPL_y (y_move rfl) rfl ?_
                refine SPL_ifn (y_lss rfl rfl) rfl ?_ ?_
                · intro h19_2
                  refine SPL_nil ?_
                  refine thenP_n ?_
                  refine SP_cond_f rfl ?_
                  refine SP_skip ?_
                  refine thenP_n ?_
                  exact Mid.intro ((sgW a, sgW b, pM a, pM b, pE a, pE b)) (⟨by rw [hadd, if_neg h19_2], pM_lt a, pM_lt b, ⟨pE_ge b, by dsimp only; omega, pE_le a⟩, fun q => pM_ge (by have := pE_ge b; dsimp only at q; omega), pM_pos (of_decide_eq_false hzb) fb⟩) (by repeat (first | exact Sub.nil _ | refine Sub.cons rfl ?_)) (by repeat (first | exact Part.nil _ | (apply Part.cons; with_reducible (first | exact P0 | exact P1 | exact P2 | exact P3 | exact P4 | exact P5 | exact P6 | exact P7 | exact P8 | exact P9 | exact P10 | exact P11 | exact P12 | exact P13 | exact P14 | exact P15 | exact P16 | exact P17 | exact P18 | exact P19 | exact P20 | exact P21 | exact P22 | exact P23)) | (apply Part.flat; simp only [List.cons_append, List.nil_append]) | (apply Part.cons; (first | exact P0 | exact P1 | exact P2 | exact P3 | exact P4 | exact P5 | exact P6 | exact P7 | exact P8 | exact P9 | exact P10 | exact P11 | exact P12 | exact P13 | exact P14 | exact P15 | exact P16 | exact P17 | exact P18 | exact P19 | exact P20 | exact P21 | exact P22 | exact P23)) | (apply Part.nilc)))
                intro h19_2
                refine SPL_nil ?_
                refine thenP_n ?_
                refine SP_cond_t rfl ?_
                refine SP_seq ?_
                refine SP_region ?_
                refine SPL_y (y_move rfl) rfl ?_
                refine SPL_y (y_move rfl) rfl ?_
                refine SPL_y (y_assign rfl) rfl ?_
                refine SPL_y (y_assign rfl) rfl ?_
                refine SPL_nil ?_
                refine thenP_n ?_
                refine SP_seq ?_
                refine SP_region ?_
                refine SPL_y (y_move rfl) rfl ?_
                refine SPL_y (y_move rfl) rfl ?_
                refine SPL_y (y_assign rfl) rfl ?_
                refine SPL_y (y_assign rfl) rfl ?_
                refine SPL_nil ?_
                refine thenP_n ?_
                refine SP_region ?_
                refine SPL_y (y_move rfl) rfl ?_
                refine SPL_y (y_move rfl) rfl ?_
                refine SPL_y (y_assign rfl) rfl ?_
                refine SPL_y (y_assign rfl) rfl ?_
                refine SPL_nil ?_
                refine thenP_n ?_
                exact Mid.intro ((sgW b, sgW a, pM b, pM a, pE b, pE a)) (⟨by rw [hadd, if_pos h19_2], pM_lt b, pM_lt a, ⟨pE_ge a, by dsimp only; omega, pE_le b⟩, fun q => pM_ge (by have := pE_ge a; dsimp only at q; omega), pM_pos (of_decide_eq_false hza) fa⟩) (by repeat (first | exact Sub.nil _ | refine Sub.cons rfl ?_)) (by repeat (first | exact Part.nil _ | (apply Part.cons; with_reducible (first | exact P0 | exact P1 | exact P2 | exact P3 | exact P4 | exact P5 | exact P6 | exact P7 | exact P8 | exact P9 | exact P10 | exact P11 | exact P12 | exact P13 | exact P14 | exact P15 | exact P16 | exact P17 | exact P18 | exact P19 | exact P20 | exact P21 | exact P22 | exact P23)) | (apply Part.flat; simp only [List.cons_append, List.nil_append]) | (apply Part.cons; (first | exact P0 | exact P1 | exact P2 | exact P3 | exact P4 | exact P5 | exact P6 | exact P7 | exact P8 | exact P9 | exact P10 | exact P11 | exact P12 | exact P13 | exact P14 | exact P15 | exact P16 | exact P17 | exact P18 | exact P19 | exact P20 | exact P21 | exact P22 | exact P23)) | (apply Part.nilc)))
              clear hadd
              rintro ⟨sa, sb, ma, mb, ea, eb⟩ ⟨hW, hma, hmb, he, hge, hb0⟩
              dsimp only at hW hma hmb he hge hb0 ⊢
              refine SP_seq ?_
              refine SP_region ?_
              refine SPL_y (y_move rfl) rfl ?_
              refine SPL_y (y_move rfl) rfl ?_
              refine SPL_y (y_sub rfl rfl (by omega)) rfl ?_
              refine SPL_y (y_assign rfl) rfl ?_
              refine SPL_nil ?_
              refine thenP_n ?_
              refine SP_seq ?_
              refine SP_region ?_
              refine SPL_y (y_assign rfl) rfl ?_
              refine SPL_nil ?_
              refine thenP_n ?_
              refine SP_mid (G := Nat × Nat × Int × Bool) (fun g => [(5, .int .u64 ((g.1 : Nat) : Int)), (7, .int .u64 ((g.2.1 : Nat) : Int)), (8, I g.2.2.1), (9, .int .u64 ((sgB sa : Nat) : Int)), (10, .int .u64 ((sgB sb : Nat) : Int)), (12, .bool g.2.2.2)]) (fun _ => []) (fun g => addW a b = adF sa sb g.1 g.2.1 g.2.2.1 g.2.2.2 ∧ g.1 < 9223372036854775808 ∧ g.2.1 < 9007199254740992 ∧ (-1100 ≤ g.2.2.1 ∧ g.2.2.1 ≤ 1000) ∧ (g.2.2.2 = true → g.2.1 < g.1)) ?_ ?_
              · refine SP_seq ?_
                refine SP_region ?_
                refine SPL_y (y_move rfl) rfl ?_
                refine SPL_if (y_leq rfl rfl) rfl ?_ ?_
                · intro h25_1
                  refine SPL_nil ?_
                  refine thenP_n ?_
                  refine SP_cond_t rfl ?_
                  refine SP_region ?_
                  refine SPL_y (y_move rfl) rfl ?_
                  refine SPL_y (y_move rfl) rfl ?_
                  refine SPL_y (y_conv Tryz.underlying3 Tryz.underlying75 rfl (u64i (k := (ea - eb).toNat) (by omega) (by omega))) rfl ?_
                  refine SPL_y (y_shl rfl rfl (by omega) (shlD hma (by omega)).1) rfl ?_
                  refine SPL_y (y_assign rfl) rfl ?_
                  refine SPL_nil ?_
                  refine thenP_n ?_
                  exact Mid.intro ((ma * 2 ^ (ea - eb).toNat, mb, eb, false)) (⟨by rw [hW]; unfold addP; rw [if_pos h25_1], (shlD hma (by omega)).2, hmb, by dsimp only; omega, fun q => (by cases q)⟩) (by repeat (first | exact Sub.nil _ | refine Sub.cons rfl ?_)) (by repeat (first | exact Part.nil _ | (apply Part.cons; with_reducible (first | exact P0 | exact P1 | exact P2 | exact P3 | exact P4 | exact P5 | exact P6 | exact P7 | exact P8 | exact P9 | exact P10 | exact P11 | exact P12 | exact P13 | exact P14 | exact P15 | exact P16 | exact P17 | exact P18 | exact P19 | exact P20 | exact P21 | exact P22 | exact P23)) | (apply Part.flat; simp only [List.cons_append, List.nil_append]) | (apply Part.cons; (first | exact P0 | exact P1 | exact P2 | exact P3 | exact P4 | exact P5 | exact P6 | exact P7 | exact P8 | exact P9 | exact P10 | exact P11 | exact P12 | exact P13 | exact P14 | exact P15 | exact P16 | exact P17 | exact P18 | exact P19 | exact P20 | exact P21 | exact P22 | exact P23)) | (apply Part.nilc)))
                intro h25_1
                refine SPL_nil ?_
                refine thenP_n ?_
                refine SP_cond_f rfl ?_
                refine SP_seq ?_
                refine SP_region ?_
                refine SPL_y (y_move rfl) rfl ?_
                refine SPL_y (y_shl rfl rfl (by decide) (shlD (d := 10) hma (by decide)).1) rfl ?_
                refine SPL_y (y_assign rfl) rfl ?_
                refine SPL_nil ?_
                refine thenP_n ?_
                refine SP_seq ?_
                refine SP_region ?_
                refine SPL_y (y_move rfl) rfl ?_
                refine SPL_y (y_sub rfl rfl (by omega)) rfl ?_
                refine SPL_y (y_assign rfl) rfl ?_
                refine SPL_nil ?_
                refine thenP_n ?_
                refine SP_seq ?_
                refine SP_seq ?_
                refine SP_region ?_
                refine SPL_y (y_move rfl) rfl ?_
                refine SPL_if (y_geq rfl rfl) rfl ?_ ?_
                · intro h29_1
                  refine SPL_nil ?_
                  refine thenP_n ?_
                  refine SP_cond_t rfl ?_
                  refine SP_seq ?_
                  refine SP_region ?_
                  refine SPL_y (y_assign rfl) rfl ?_
                  refine SPL_nil ?_
                  refine thenP_n ?_
                  refine SP_region ?_
                  refine SPL_y (y_assign rfl) rfl ?_
                  refine SPL_nil ?_
                  refine thenP_n ?_
                  refine SP_region ?_
                  refine SPL_y (y_move rfl) rfl ?_
                  refine SPL_y (y_sub rfl rfl (by omega)) rfl ?_
                  refine SPL_y (y_assign rfl) rfl ?_
                  refine SPL_nil ?_
                  refine thenP_n ?_
                  exact Mid.intro ((ma * 2 ^ 10, 0, ea - 10, true)) (⟨by rw [hW]; unfold addP; rw [if_neg h25_1, if_pos (by omega)], (shlD (d := 10) hma (by decide)).2, by dsimp only; decide, by dsimp only; omega, fun q => (by have := hge (by omega); dsimp only; omega)⟩) (by repeat (first | exact Sub.nil _ | refine Sub.cons rfl ?_)) (by repeat (first | exact Part.nil _ | (apply Part.cons; with_reducible (first | exact P0 | exact P1 | exact P2 | exact P3 | exact P4 | exact P5 | exact P6 | exact P7 | exact P8 | exact P9 | exact P10 | exact P11 | exact P12 | exact P13 | exact P14 | exact P15 | exact P16 | exact P17 | exact P18 | exact P19 | exact P20 | exact P21 | exact P22 | exact P23)) | (apply Part.flat; simp only [List.cons_append, List.nil_append]) | (apply Part.cons; (first | exact P0 | exact P1 | exact P2 | exact P3 | exact P4 | exact P5 | exact P6 | exact P7 | exact P8 | exact P9 | exact P10 | exact P11 | exact P12 | exact P13 | exact P14 | exact P15 | exact P16 | exact P17 | exact P18 | exact P19 | exact P20 | exact P21 | exact P22 | exact P23)) | (apply Part.nilc)))
                intro h29_1
                refine SPL_nil ?_
                refine thenP_n ?_
                refine SP_cond_f rfl ?_
                refine SP_seq ?_
                refine SP_region ?_
                refine SPL_y (y_move rfl) rfl ?_
                refine SPL_y (y_move rfl) rfl ?_
                refine SPL_y (y_conv Tryz.underlying3 Tryz.underlying75 rfl (u64i (k := (ea - eb - 10).toNat) (by omega) (by omega))) rfl ?_
                refine SPL_y (y_shl rfl rfl (by omega) (shl1 (by omega))) rfl ?_
                refine SPL_y (y_subw rfl rfl (sub1 (by omega))) rfl ?_
                refine SPL_y (y_and rfl rfl (w_mask (by omega) (by omega))) rfl ?_
                refine SPL_y (y_neq rfl rfl) rfl ?_
                refine SPL_y (y_assign rfl) rfl ?_
                refine SPL_nil ?_
                refine thenP_n ?_
                refine SP_region ?_
                refine SPL_y (y_move rfl) rfl ?_
                refine SPL_y (y_move rfl) rfl ?_
                refine SPL_y (y_conv Tryz.underlying3 Tryz.underlying75 rfl (u64i (k := (ea - eb - 10).toNat) (by omega) (by omega))) rfl ?_
                refine SPL_y (y_shr rfl rfl (by omega) (w_shr (by omega))) rfl ?_
                refine SPL_y (y_assign rfl) rfl ?_
                refine SPL_nil ?_
                refine thenP_n ?_
                refine SP_region ?_
                refine SPL_y (y_move rfl) rfl ?_
                refine SPL_y (y_sub rfl rfl (by omega)) rfl ?_
                refine SPL_y (y_assign rfl) rfl ?_
                refine SPL_nil ?_
                refine thenP_n ?_
                exact Mid.intro ((ma * 2 ^ 10, mb / 2 ^ (ea - eb - 10).toNat, ea - 10, decide (((mb % 2 ^ (ea - eb - 10).toNat : Nat) : Int) ≠ 0))) (⟨by rw [hW]; unfold addP; rw [if_neg h25_1, if_neg (by omega), show decide (((mb % 2 ^ (ea - eb - 10).toNat : Nat) : Int) ≠ 0) = decide (mb % 2 ^ (ea - eb - 10).toNat ≠ 0) from decide_eq_decide.2 (by omega)], (shlD (d := 10) hma (by decide)).2, Nat.lt_of_le_of_lt (Nat.div_le_self _ _) hmb, by dsimp only; omega, fun q => (by have := hge (by omega); have := Nat.div_le_self mb (2 ^ (ea - eb - 10).toNat); dsimp only; omega)⟩) (by repeat (first | exact Sub.nil _ | refine Sub.cons rfl ?_)) (by repeat (first | exact Part.nil _ | (apply Part.cons; with_reducible (first | exact P0 | exact P1 | exact P2 | exact P3 | exact P4 | exact P5 | exact P6 | exact P7 | exact P8 | exact P9 | exact P10 | exact P11 | exact P12 | exact P13 | exact P14 | exact P15 | exact P16 | exact P17 | exact P18 | exact P19 | exact P20 | exact P21 | exact P22 | exact P23)) | (apply Part.flat; simp only [List.cons_append, List.nil_append]) | (apply Part.cons; (first | exact P0 | exact P1 | exact P2 | exact P3 | exact P4 | exact P5 | exact P6 | exact P7 | exact P8 | exact P9 | exact P10 | exact P11 | exact P12 | exact P13 | exact P14 | exact P15 | exact P16 | exact P17 | exact P18 | exact P19 | exact P20 | exact P21 | exact P22 | exact P23)) | (apply Part.nilc)))
              clear hW
              rintro ⟨A, B, e, st⟩ ⟨hF, hA, hB, hee, hst⟩
              dsimp only at hF hA hB hee hst ⊢
              rcases st with _ | _
              · refine SP_seq ?_
                refine SP_seq ?_
                refine SP_region ?_
                refine SPL_y (y_move rfl) rfl ?_
                refine SPL_y (y_move rfl) rfl ?_
                refine SPL_if (y_eql rfl rfl) rfl ?_ ?_
                · intro h35_2
                  refine SPL_nil ?_
                  refine thenP_n ?_
                  refine SP_cond_t rfl ?_
                  refine SP_seq ?_
                  refine SP_region ?_
                  refine SPL_y (y_move rfl) rfl ?_
                  refine SPL_y (y_move rfl) rfl ?_
                  refine SPL_y (y_move rfl) rfl ?_
                  refine SPL_y (y_addw rfl rfl (u64add (by omega))) rfl ?_
                  refine SPL_y (y_move rfl) rfl ?_
                  refine SPL_y (y_move rfl) rfl ?_
                  refine SPL_one rfl (SP1_call (nm_pack sa (A + B) e false (by omega) (by omega)) Tryz.call171 rfl rfl (by repeat (first | exact Part.nil _ | (apply Part.cons; with_reducible (first | exact P0 | exact P1 | exact P2 | exact P3 | exact P4 | exact P5 | exact P6 | exact P7 | exact P8 | exact P9 | exact P10 | exact P11 | exact P12 | exact P13 | exact P14 | exact P15 | exact P16 | exact P17 | exact P18 | exact P19 | exact P20 | exact P21 | exact P22 | exact P23)) | (apply Part.flat; simp only [List.cons_append, List.nil_append]) | (apply Part.cons; (first | exact P0 | exact P1 | exact P2 | exact P3 | exact P4 | exact P5 | exact P6 | exact P7 | exact P8 | exact P9 | exact P10 | exact P11 | exact P12 | exact P13 | exact P14 | exact P15 | exact P16 | exact P17 | exact P18 | exact P19 | exact P20 | exact P21 | exact P22 | exact P23)) | (apply Part.nilc))) ?_)
                  rintro v post H' ⟨rfl, rfl⟩ hH
                  try simp only [List.cons_append, List.nil_append] at hH
                  subst hH
                  refine SPL_y (y_assign rfl) rfl ?_
                  refine SPL_nil ?_
                  refine thenP_n ?_
                  refine SP_ret ?_
                  refine thenP_ret (bodyP_ret (H' := []) (Res1 rfl rfl) (by repeat (first | exact Part.nil _ | (apply Part.cons; with_reducible (first | exact P0 | exact P1 | exact P2 | exact P3 | exact P4 | exact P5 | exact P6 | exact P7 | exact P8 | exact P9 | exact P10 | exact P11 | exact P12 | exact P13 | exact P14 | exact P15 | exact P16 | exact P17 | exact P18 | exact P19 | exact P20 | exact P21 | exact P22 | exact P23)) | (apply Part.flat; simp only [List.cons_append, List.nil_append]) | (apply Part.cons; (first | exact P0 | exact P1 | exact P2 | exact P3 | exact P4 | exact P5 | exact P6 | exact P7 | exact P8 | exact P9 | exact P10 | exact P11 | exact P12 | exact P13 | exact P14 | exact P15 | exact P16 | exact P17 | exact P18 | exact P19 | exact P20 | exact P21 | exact P22 | exact P23)) | (apply Part.nilc))) ?_)
                  exact ⟨by rw [hF, adF_a (sgB_inj.1 h35_2)], rfl⟩
                intro h35_2
                refine SPL_nil ?_
                refine thenP_n ?_
                refine SP_cond_f rfl ?_
                refine SP_skip ?_
                refine thenP_n ?_
                refine SP_seq ?_
                refine SP_seq ?_
                refine SP_region ?_
                refine SPL_y (y_move rfl) rfl ?_
                refine SPL_y (y_move rfl) rfl ?_
                refine SPL_if (y_eql rfl rfl) rfl ?_ ?_
                · intro h37_2
                  refine SPL_y (y_move rfl) rfl ?_
                  refine SPL_gy rfl rfl ?_
                  refine SPL_y (y_move rfl) rfl ?_
                  refine SPL_gy rfl rfl ?_
                  refine SPL_y (y_not_f rfl) rfl ?_
                  refine SPL_y (y_pick_t rfl rfl) rfl ?_
                  refine SPL_nil ?_
                  refine thenP_n ?_
                  refine SP_cond_t rfl ?_
                  refine SP_seq ?_
                  refine SP_region ?_
                  refine SPL_y (y_assign rfl) rfl ?_
                  refine SPL_nil ?_
                  refine thenP_n ?_
                  refine SP_ret ?_
                  refine thenP_ret (bodyP_ret (H' := []) (Res1 rfl rfl) (by repeat (first | exact Part.nil _ | (apply Part.cons; with_reducible (first | exact P0 | exact P1 | exact P2 | exact P3 | exact P4 | exact P5 | exact P6 | exact P7 | exact P8 | exact P9 | exact P10 | exact P11 | exact P12 | exact P13 | exact P14 | exact P15 | exact P16 | exact P17 | exact P18 | exact P19 | exact P20 | exact P21 | exact P22 | exact P23)) | (apply Part.flat; simp only [List.cons_append, List.nil_append]) | (apply Part.cons; (first | exact P0 | exact P1 | exact P2 | exact P3 | exact P4 | exact P5 | exact P6 | exact P7 | exact P8 | exact P9 | exact P10 | exact P11 | exact P12 | exact P13 | exact P14 | exact P15 | exact P16 | exact P17 | exact P18 | exact P19 | exact P20 | exact P21 | exact P22 | exact P23)) | (apply Part.nilc))) ?_)
                  exact ⟨by rw [hF, adF_b (fun q => h35_2 (sgB_inj.2 q)) (by omega)]; rfl, rfl⟩
                intro h37_2
                refine SPL_y (y_move rfl) rfl ?_
                refine SPL_gn rfl rfl rfl rfl ?_
                refine SPL_gn rfl rfl rfl rfl ?_
                refine SPL_y (y_pick_f rfl rfl) rfl ?_
                refine SPL_nil ?_
                refine thenP_n ?_
                refine SP_cond_f rfl ?_
                refine SP_skip ?_
                refine thenP_n ?_
                refine SP_seq ?_
                refine SP_seq ?_
                refine SP_region ?_
                refine SPL_y (y_move rfl) rfl ?_
                refine SPL_y (y_move rfl) rfl ?_
                refine SPL_if (y_lss rfl rfl) rfl ?_ ?_
                · intro h39_2
                  refine SPL_nil ?_
                  refine thenP_n ?_
                  refine SP_cond_t rfl ?_
                  refine SP_seq ?_
                  refine SP_region ?_
                  refine SPL_y (y_move rfl) rfl ?_
                  refine SPL_y (y_move rfl) rfl ?_
                  refine SPL_y (y_move rfl) rfl ?_
                  refine SPL_y (y_subw rfl rfl (u64sub (by omega) (by omega))) rfl ?_
                  refine SPL_y (y_move rfl) rfl ?_
                  refine SPL_one rfl (SP1_call (nm_pack sb (B - A) e false (by omega) (by omega)) Tryz.call171 rfl rfl (by repeat (first | exact Part.nil _ | (apply Part.cons; with_reducible (first | exact P0 | exact P1 | exact P2 | exact P3 | exact P4 | exact P5 | exact P6 | exact P7 | exact P8 | exact P9 | exact P10 | exact P11 | exact P12 | exact P13 | exact P14 | exact P15 | exact P16 | exact P17 | exact P18 | exact P19 | exact P20 | exact P21 | exact P22 | exact P23)) | (apply Part.flat; simp only [List.cons_append, List.nil_append]) | (apply Part.cons; (first | exact P0 | exact P1 | exact P2 | exact P3 | exact P4 | exact P5 | exact P6 | exact P7 | exact P8 | exact P9 | exact P10 | exact P11 | exact P12 | exact P13 | exact P14 | exact P15 | exact P16 | exact P17 | exact P18 | exact P19 | exact P20 | exact P21 | exact P22 | exact P23)) | (apply Part.nilc))) ?_)
                  rintro v post H' ⟨rfl, rfl⟩ hH
                  try simp only [List.cons_append, List.nil_append] at hH
                  subst hH
                  refine SPL_y (y_assign rfl) rfl ?_
                  refine SPL_nil ?_
                  refine thenP_n ?_
                  refine SP_ret ?_
                  refine thenP_ret (bodyP_ret (H' := []) (Res1 rfl rfl) (by repeat (first | exact Part.nil _ | (apply Part.cons; with_reducible (first | exact P0 | exact P1 | exact P2 | exact P3 | exact P4 | exact P5 | exact P6 | exact P7 | exact P8 | exact P9 | exact P10 | exact P11 | exact P12 | exact P13 | exact P14 | exact P15 | exact P16 | exact P17 | exact P18 | exact P19 | exact P20 | exact P21 | exact P22 | exact P23)) | (apply Part.flat; simp only [List.cons_append, List.nil_append]) | (apply Part.cons; (first | exact P0 | exact P1 | exact P2 | exact P3 | exact P4 | exact P5 | exact P6 | exact P7 | exact P8 | exact P9 | exact P10 | exact P11 | exact P12 | exact P13 | exact P14 | exact P15 | exact P16 | exact P17 | exact P18 | exact P19 | exact P20 | exact P21 | exact P22 | exact P23)) | (apply Part.nilc))) ?_)
                  exact ⟨by rw [hF, adF_c (fun q => h35_2 (sgB_inj.2 q)) (by omega)], rfl⟩
                intro h39_2
                refine SPL_nil ?_
                refine thenP_n ?_
                refine SP_cond_f rfl ?_
                refine SP_skip ?_
                refine thenP_n ?_
                refine SP_seq ?_
                refine SP_seq ?_
                refine SP_region ?_
                refine SPL_y (y_move rfl) rfl ?_
                refine SPL_nil ?_
                refine thenP_n ?_
                refine SP_cond_f rfl ?_
                refine SP_skip ?_
                refine thenP_n ?_
                refine SP_seq ?_
                refine SP_region ?_
                refine SPL_y (y_move rfl) rfl ?_
                refine SPL_y (y_move rfl) rfl ?_
                refine SPL_y (y_move rfl) rfl ?_
                refine SPL_y (y_subw rfl rfl (u64sub (by omega) (by omega))) rfl ?_
                refine SPL_y (y_move rfl) rfl ?_
                refine SPL_one rfl (SP1_call (nm_pack sa (A - B) e false (by omega) (by omega)) Tryz.call171 rfl rfl (by repeat (first | exact Part.nil _ | (apply Part.cons; with_reducible (first | exact P0 | exact P1 | exact P2 | exact P3 | exact P4 | exact P5 | exact P6 | exact P7 | exact P8 | exact P9 | exact P10 | exact P11 | exact P12 | exact P13 | exact P14 | exact P15 | exact P16 | exact P17 | exact P18 | exact P19 | exact P20 | exact P21 | exact P22 | exact P23)) | (apply Part.flat; simp only [List.cons_append, List.nil_append]) | (apply Part.cons; (first | exact P0 | exact P1 | exact P2 | exact P3 | exact P4 | exact P5 | exact P6 | exact P7 | exact P8 | exact P9 | exact P10 | exact P11 | exact P12 | exact P13 | exact P14 | exact P15 | exact P16 | exact P17 | exact P18 | exact P19 | exact P20 | exact P21 | exact P22 | exact P23)) | (apply Part.nilc))) ?_)
                rintro v post H' ⟨rfl, rfl⟩ hH
                try simp only [List.cons_append, List.nil_append] at hH
                subst hH
                refine SPL_y (y_assign rfl) rfl ?_
                refine SPL_nil ?_
                refine thenP_n ?_
                refine SP_ret ?_
                refine bodyP_ret (H' := []) (Res1 rfl rfl) (by repeat (first | exact Part.nil _ | (apply Part.cons; with_reducible (first | exact P0 | exact P1 | exact P2 | exact P3 | exact P4 | exact P5 | exact P6 | exact P7 | exact P8 | exact P9 | exact P10 | exact P11 | exact P12 | exact P13 | exact P14 | exact P15 | exact P16 | exact P17 | exact P18 | exact P19 | exact P20 | exact P21 | exact P22 | exact P23)) | (apply Part.flat; simp only [List.cons_append, List.nil_append]) | (apply Part.cons; (first | exact P0 | exact P1 | exact P2 | exact P3 | exact P4 | exact P5 | exact P6 | exact P7 | exact P8 | exact P9 | exact P10 | exact P11 | exact P12 | exact P13 | exact P14 | exact P15 | exact P16 | exact P17 | exact P18 | exact P19 | exact P20 | exact P21 | exact P22 | exact P23)) | (apply Part.nilc))) ?_
                exact ⟨by rw [hF, adF_e (fun q => h35_2 (sgB_inj.2 q)) (by omega) (by omega)], rfl⟩
              · have hst2 := hst rfl
                refine SP_seq ?_
                refine SP_seq ?_
                refine SP_region ?_
                refine SPL_y (y_move rfl) rfl ?_
                refine SPL_y (y_move rfl) rfl ?_
                refine SPL_if (y_eql rfl rfl) rfl ?_ ?_
                · intro h35_2
                  refine SPL_nil ?_
                  refine thenP_n ?_
                  refine SP_cond_t rfl ?_
                  refine SP_seq ?_
                  refine SP_region ?_
                  refine SPL_y (y_move rfl) rfl ?_
                  refine SPL_y (y_move rfl) rfl ?_
                  refine SPL_y (y_move rfl) rfl ?_
                  refine SPL_y (y_addw rfl rfl (u64add (by omega))) rfl ?_
                  refine SPL_y (y_move rfl) rfl ?_
                  refine SPL_y (y_move rfl) rfl ?_
                  refine SPL_one rfl (SP1_call (nm_pack sa (A + B) e true (by omega) (by omega)) Tryz.call171 rfl rfl (by repeat (first | exact Part.nil _ | (apply Part.cons; with_reducible (first | exact P0 | exact P1 | exact P2 | exact P3 | exact P4 | exact P5 | exact P6 | exact P7 | exact P8 | exact P9 | exact P10 | exact P11 | exact P12 | exact P13 | exact P14 | exact P15 | exact P16 | exact P17 | exact P18 | exact P19 | exact P20 | exact P21 | exact P22 | exact P23)) | (apply Part.flat; simp only [List.cons_append, List.nil_append]) | (apply Part.cons; (first | exact P0 | exact P1 | exact P2 | exact P3 | exact P4 | exact P5 | exact P6 | exact P7 | exact P8 | exact P9 | exact P10 | exact P11 | exact P12 | exact P13 | exact P14 | exact P15 | exact P16 | exact P17 | exact P18 | exact P19 | exact P20 | exact P21 | exact P22 | exact P23)) | (apply Part.nilc))) ?_)
                  rintro v post H' ⟨rfl, rfl⟩ hH
                  try simp only [List.cons_append, List.nil_append] at hH
                  subst hH
                  refine SPL_y (y_assign rfl) rfl ?_
                  refine SPL_nil ?_
                  refine thenP_n ?_
                  refine SP_ret ?_
                  refine thenP_ret (bodyP_ret (H' := []) (Res1 rfl rfl) (by repeat (first | exact Part.nil _ | (apply Part.cons; with_reducible (first | exact P0 | exact P1 | exact P2 | exact P3 | exact P4 | exact P5 | exact P6 | exact P7 | exact P8 | exact P9 | exact P10 | exact P11 | exact P12 | exact P13 | exact P14 | exact P15 | exact P16 | exact P17 | exact P18 | exact P19 | exact P20 | exact P21 | exact P22 | exact P23)) | (apply Part.flat; simp only [List.cons_append, List.nil_append]) | (apply Part.cons; (first | exact P0 | exact P1 | exact P2 | exact P3 | exact P4 | exact P5 | exact P6 | exact P7 | exact P8 | exact P9 | exact P10 | exact P11 | exact P12 | exact P13 | exact P14 | exact P15 | exact P16 | exact P17 | exact P18 | exact P19 | exact P20 | exact P21 | exact P22 | exact P23)) | (apply Part.nilc))) ?_)
                  exact ⟨by rw [hF, adF_a (sgB_inj.1 h35_2)], rfl⟩
                intro h35_2
                refine SPL_nil ?_
                refine thenP_n ?_
                refine SP_cond_f rfl ?_
                refine SP_skip ?_
                refine thenP_n ?_
                refine SP_seq ?_
                refine SP_seq ?_
                refine SP_region ?_
                refine SPL_y (y_move rfl) rfl ?_
                refine SPL_y (y_move rfl) rfl ?_
                refine SPL_ifn (y_eql rfl rfl) rfl ?_ ?_
                · intro h37_2
                  refine SPL_y (y_move rfl) rfl ?_
                  refine SPL_gn rfl rfl rfl rfl ?_
                  refine SPL_gn rfl rfl rfl rfl ?_
                  refine SPL_y (y_pick_f rfl rfl) rfl ?_
                  refine SPL_nil ?_
                  refine thenP_n ?_
                  refine SP_cond_f rfl ?_
                  refine SP_skip ?_
                  refine thenP_n ?_
                  refine SP_seq ?_
                  refine SP_seq ?_
                  refine SP_region ?_
                  refine SPL_y (y_move rfl) rfl ?_
                  refine SPL_y (y_move rfl) rfl ?_
                  refine SPL_if (y_lss rfl rfl) rfl ?_ ?_
                  · intro h39_2
                    refine SPL_nil ?_
                    refine thenP_n ?_
                    refine SP_cond_t rfl ?_
                    refine SP_seq ?_
                    refine SP_region ?_
                    refine SPL_y (y_move rfl) rfl ?_
                    refine SPL_y (y_move rfl) rfl ?_
                    refine SPL_y (y_move rfl) rfl ?_
                    refine SPL_y (y_subw rfl rfl (u64sub (by omega) (by omega))) rfl ?_
                    refine SPL_y (y_move rfl) rfl ?_
                    refine SPL_one rfl (SP1_call (nm_pack sb (B - A) e false (by omega) (by omega)) Tryz.call171 rfl rfl (by repeat (first | exact Part.nil _ | (apply Part.cons; with_reducible (first | exact P0 | exact P1 | exact P2 | exact P3 | exact P4 | exact P5 | exact P6 | exact P7 | exact P8 | exact P9 | exact P10 | exact P11 | exact P12 | exact P13 | exact P14 | exact P15 | exact P16 | exact P17 | exact P18 | exact P19 | exact P20 | exact P21 | exact P22 | exact P23)) | (apply Part.flat; simp only [List.cons_append, List.nil_append]) | (apply Part.cons; (first | exact P0 | exact P1 | exact P2 | exact P3 | exact P4 | exact P5 | exact P6 | exact P7 | exact P8 | exact P9 | exact P10 | exact P11 | exact P12 | exact P13 | exact P14 | exact P15 | exact P16 | exact P17 | exact P18 | exact P19 | exact P20 | exact P21 | exact P22 | exact P23)) | (apply Part.nilc))) ?_)
                    rintro v post H' ⟨rfl, rfl⟩ hH
                    try simp only [List.cons_append, List.nil_append] at hH
                    subst hH
                    refine SPL_y (y_assign rfl) rfl ?_
                    refine SPL_nil ?_
                    refine thenP_n ?_
                    refine SP_ret ?_
                    refine thenP_ret (bodyP_ret (H' := []) (Res1 rfl rfl) (by repeat (first | exact Part.nil _ | (apply Part.cons; with_reducible (first | exact P0 | exact P1 | exact P2 | exact P3 | exact P4 | exact P5 | exact P6 | exact P7 | exact P8 | exact P9 | exact P10 | exact P11 | exact P12 | exact P13 | exact P14 | exact P15 | exact P16 | exact P17 | exact P18 | exact P19 | exact P20 | exact P21 | exact P22 | exact P23)) | (apply Part.flat; simp only [List.cons_append, List.nil_append]) | (apply Part.cons; (first | exact P0 | exact P1 | exact P2 | exact P3 | exact P4 | exact P5 | exact P6 | exact P7 | exact P8 | exact P9 | exact P10 | exact P11 | exact P12 | exact P13 | exact P14 | exact P15 | exact P16 | exact P17 | exact P18 | exact P19 | exact P20 | exact P21 | exact P22 | exact P23)) | (apply Part.nilc))) ?_)
                    exact ⟨by rw [hF, adF_c (fun q => h35_2 (sgB_inj.2 q)) (by omega)], rfl⟩
                  intro h39_2
                  refine SPL_nil ?_
                  refine thenP_n ?_
                  refine SP_cond_f rfl ?_
                  refine SP_skip ?_
                  refine thenP_n ?_
                  refine SP_seq ?_
                  refine SP_seq ?_
                  refine SP_region ?_
                  refine SPL_y (y_move rfl) rfl ?_
                  refine SPL_nil ?_
                  refine thenP_n ?_
                  refine SP_cond_t rfl ?_
                  refine SP_seq ?_
                  refine SP_region ?_
                  refine SPL_y (y_move rfl) rfl ?_
                  refine SPL_y (y_move rfl) rfl ?_
                  refine SPL_y (y_move rfl) rfl ?_
                  refine SPL_y (y_subw rfl rfl (u64sub (by omega) (by omega))) rfl ?_
                  refine SPL_y (y_subw rfl rfl (show _ = ((A - B - 1 : Nat) : Int) from u64sub (b := 1) (by omega) (by omega))) rfl ?_
                  refine SPL_y (y_move rfl) rfl ?_
                  refine SPL_one rfl (SP1_call (nm_pack sa (A - B - 1) e true (by omega) (by omega)) Tryz.call171 rfl rfl (by repeat (first | exact Part.nil _ | (apply Part.cons; with_reducible (first | exact P0 | exact P1 | exact P2 | exact P3 | exact P4 | exact P5 | exact P6 | exact P7 | exact P8 | exact P9 | exact P10 | exact P11 | exact P12 | exact P13 | exact P14 | exact P15 | exact P16 | exact P17 | exact P18 | exact P19 | exact P20 | exact P21 | exact P22 | exact P23)) | (apply Part.flat; simp only [List.cons_append, List.nil_append]) | (apply Part.cons; (first | exact P0 | exact P1 | exact P2 | exact P3 | exact P4 | exact P5 | exact P6 | exact P7 | exact P8 | exact P9 | exact P10 | exact P11 | exact P12 | exact P13 | exact P14 | exact P15 | exact P16 | exact P17 | exact P18 | exact P19 | exact P20 | exact P21 | exact P22 | exact P23)) | (apply Part.nilc))) ?_)
                  rintro v post H' ⟨rfl, rfl⟩ hH
                  try simp only [List.cons_append, List.nil_append] at hH
                  subst hH
                  refine SPL_y (y_assign rfl) rfl ?_
                  refine SPL_nil ?_
                  refine thenP_n ?_
                  refine SP_ret ?_
                  refine thenP_ret (bodyP_ret (H' := []) (Res1 rfl rfl) (by repeat (first | exact Part.nil _ | (apply Part.cons; with_reducible (first | exact P0 | exact P1 | exact P2 | exact P3 | exact P4 | exact P5 | exact P6 | exact P7 | exact P8 | exact P9 | exact P10 | exact P11 | exact P12 | exact P13 | exact P14 | exact P15 | exact P16 | exact P17 | exact P18 | exact P19 | exact P20 | exact P21 | exact P22 | exact P23)) | (apply Part.flat; simp only [List.cons_append, List.nil_append]) | (apply Part.cons; (first | exact P0 | exact P1 | exact P2 | exact P3 | exact P4 | exact P5 | exact P6 | exact P7 | exact P8 | exact P9 | exact P10 | exact P11 | exact P12 | exact P13 | exact P14 | exact P15 | exact P16 | exact P17 | exact P18 | exact P19 | exact P20 | exact P21 | exact P22 | exact P23)) | (apply Part.nilc))) ?_)
                  exact ⟨by rw [hF, adF_d (fun q => h35_2 (sgB_inj.2 q)) (by omega)], rfl⟩
                intro h37_2
                refine SPL_y (y_move rfl) rfl ?_
                refine SPL_gy rfl rfl ?_
                refine SPL_y (y_move rfl) rfl ?_
                refine SPL_gy rfl rfl ?_
                refine SPL_y (y_not_t rfl) rfl ?_
                refine SPL_y (y_pick_t rfl rfl) rfl ?_
                refine SPL_nil ?_
                refine thenP_n ?_
                refine SP_cond_f rfl ?_
                refine SP_skip ?_
                refine thenP_n ?_
                refine SP_seq ?_
                refine SP_seq ?_
                refine SP_region ?_
                refine SPL_y (y_move rfl) rfl ?_
                refine SPL_y (y_move rfl) rfl ?_
                refine SPL_if (y_lss rfl rfl) rfl ?_ ?_
                · intro h39_2
                  refine SPL_nil ?_
                  refine thenP_n ?_
                  refine SP_cond_t rfl ?_
                  refine SP_seq ?_
                  refine SP_region ?_
                  refine SPL_y (y_move rfl) rfl ?_
                  refine SPL_y (y_move rfl) rfl ?_
                  refine SPL_y (y_move rfl) rfl ?_
                  refine SPL_y (y_subw rfl rfl (u64sub (by omega) (by omega))) rfl ?_
                  refine SPL_y (y_move rfl) rfl ?_
                  refine SPL_one rfl (SP1_call (nm_pack sb (B - A) e false (by omega) (by omega)) Tryz.call171 rfl rfl (by repeat (first | exact Part.nil _ | (apply Part.cons; with_reducible (first | exact P0 | exact P1 | exact P2 | exact P3 | exact P4 | exact P5 | exact P6 | exact P7 | exact P8 | exact P9 | exact P10 | exact P11 | exact P12 | exact P13 | exact P14 | exact P15 | exact P16 | exact P17 | exact P18 | exact P19 | exact P20 | exact P21 | exact P22 | exact P23)) | (apply Part.flat; simp only [List.cons_append, List.nil_append]) | (apply Part.cons; (first | exact P0 | exact P1 | exact P2 | exact P3 | exact P4 | exact P5 | exact P6 | exact P7 | exact P8 | exact P9 | exact P10 | exact P11 | exact P12 | exact P13 | exact P14 | exact P15 | exact P16 | exact P17 | exact P18 | exact P19 | exact P20 | exact P21 | exact P22 | exact P23)) | (apply Part.nilc))) ?_)
                  rintro v post H' ⟨rfl, rfl⟩ hH
                  try simp only [List.cons_append, List.nil_append] at hH
                  subst hH
                  refine SPL_y (y_assign rfl) rfl ?_
                  refine SPL_nil ?_
                  refine thenP_n ?_
                  refine SP_ret ?_
                  refine thenP_ret (bodyP_ret (H' := []) (Res1 rfl rfl) (by repeat (first | exact Part.nil _ | (apply Part.cons; with_reducible (first | exact P0 | exact P1 | exact P2 | exact P3 | exact P4 | exact P5 | exact P6 | exact P7 | exact P8 | exact P9 | exact P10 | exact P11 | exact P12 | exact P13 | exact P14 | exact P15 | exact P16 | exact P17 | exact P18 | exact P19 | exact P20 | exact P21 | exact P22 | exact P23)) | (apply Part.flat; simp only [List.cons_append, List.nil_append]) | (apply Part.cons; (first | exact P0 | exact P1 | exact P2 | exact P3 | exact P4 | exact P5 | exact P6 | exact P7 | exact P8 | exact P9 | exact P10 | exact P11 | exact P12 | exact P13 | exact P14 | exact P15 | exact P16 | exact P17 | exact P18 | exact P19 | exact P20 | exact P21 | exact P22 | exact P23)) | (apply Part.nilc))) ?_)
                  exact ⟨by rw [hF, adF_c (fun q => h35_2 (sgB_inj.2 q)) (by omega)], rfl⟩
                intro h39_2
                refine SPL_nil ?_
                refine thenP_n ?_
                refine SP_cond_f rfl ?_
                refine SP_skip ?_
                refine thenP_n ?_
                refine SP_seq ?_
                refine SP_seq ?_
                refine SP_region ?_
                refine SPL_y (y_move rfl) rfl ?_
                refine SPL_nil ?_
                refine thenP_n ?_
                refine SP_cond_t rfl ?_
                refine SP_seq ?_
                refine SP_region ?_
                refine SPL_y (y_move rfl) rfl ?_
                refine SPL_y (y_move rfl) rfl ?_
                refine SPL_y (y_move rfl) rfl ?_
                refine SPL_y (y_subw rfl rfl (u64sub (by omega) (by omega))) rfl ?_
                refine SPL_y (y_subw rfl rfl (show _ = ((A - B - 1 : Nat) : Int) from u64sub (b := 1) (by omega) (by omega))) rfl ?_
                refine SPL_y (y_move rfl) rfl ?_
                refine SPL_one rfl (SP1_call (nm_pack sa (A - B - 1) e true (by omega) (by omega)) Tryz.call171 rfl rfl (by repeat (first | exact Part.nil _ | (apply Part.cons; with_reducible (first | exact P0 | exact P1 | exact P2 | exact P3 | exact P4 | exact P5 | exact P6 | exact P7 | exact P8 | exact P9 | exact P10 | exact P11 | exact P12 | exact P13 | exact P14 | exact P15 | exact P16 | exact P17 | exact P18 | exact P19 | exact P20 | exact P21 | exact P22 | exact P23)) | (apply Part.flat; simp only [List.cons_append, List.nil_append]) | (apply Part.cons; (first | exact P0 | exact P1 | exact P2 | exact P3 | exact P4 | exact P5 | exact P6 | exact P7 | exact P8 | exact P9 | exact P10 | exact P11 | exact P12 | exact P13 | exact P14 | exact P15 | exact P16 | exact P17 | exact P18 | exact P19 | exact P20 | exact P21 | exact P22 | exact P23)) | (apply Part.nilc))) ?_)
                rintro v post H' ⟨rfl, rfl⟩ hH
                try simp only [List.cons_append, List.nil_append] at hH
                subst hH
                refine SPL_y (y_assign rfl) rfl ?_
                refine SPL_nil ?_
                refine thenP_n ?_
                refine SP_ret ?_
                refine thenP_ret (bodyP_ret (H' := []) (Res1 rfl rfl) (by repeat (first | exact Part.nil _ | (apply Part.cons; with_reducible (first | exact P0 | exact P1 | exact P2 | exact P3 | exact P4 | exact P5 | exact P6 | exact P7 | exact P8 | exact P9 | exact P10 | exact P11 | exact P12 | exact P13 | exact P14 | exact P15 | exact P16 | exact P17 | exact P18 | exact P19 | exact P20 | exact P21 | exact P22 | exact P23)) | (apply Part.flat; simp only [List.cons_append, List.nil_append]) | (apply Part.cons; (first | exact P0 | exact P1 | exact P2 | exact P3 | exact P4 | exact P5 | exact P6 | exact P7 | exact P8 | exact P9 | exact P10 | exact P11 | exact P12 | exact P13 | exact P14 | exact P15 | exact P16 | exact P17 | exact P18 | exact P19 | exact P20 | exact P21 | exact P22 | exact P23)) | (apply Part.nilc))) ?_)
                exact ⟨by rw [hF, adF_d (fun q => h35_2 (sgB_inj.2 q)) (by omega)], rfl⟩
            · refine SPL_nil ?_
              refine thenP_n ?_
              refine SP_cond_t rfl ?_
              refine SP_seq ?_
              refine SP_region ?_
              refine SPL_y (y_move rfl) rfl ?_
              refine SPL_y (y_assign rfl) rfl ?_
              refine SPL_nil ?_
              refine thenP_n ?_
              refine SP_ret ?_
              refine thenP_ret (bodyP_ret (H' := []) (Res1 rfl rfl) (by repeat (first | exact Part.nil _ | (apply Part.cons; with_reducible (first | exact P0 | exact P1 | exact P2 | exact P3 | exact P4 | exact P5 | exact P6 | exact P7 | exact P8 | exact P9 | exact P10 | exact P11 | exact P12 | exact P13 | exact P14 | exact P15 | exact P16 | exact P17 | exact P18 | exact P19 | exact P20 | exact P21 | exact P22 | exact P23)) | (apply Part.flat; simp only [List.cons_append, List.nil_append]) | (apply Part.cons; (first | exact P0 | exact P1 | exact P2 | exact P3 | exact P4 | exact P5 | exact P6 | exact P7 | exact P8 | exact P9 | exact P10 | exact P11 | exact P12 | exact P13 | exact P14 | exact P15 | exact P16 | exact P17 | exact P18 | exact P19 | exact P20 | exact P21 | exact P22 | exact P23)) | (apply Part.nilc))) ?_)
              refine ⟨?_, rfl⟩
              unfold addW
              rw [if_neg (of_decide_eq_false hn), if_neg (of_decide_eq_false hi), if_neg (of_decide_eq_false hj), if_neg (of_decide_eq_false hz), if_neg (of_decide_eq_false hza), if_pos (of_decide_eq_true hzb)]
          · refine SPL_nil ?_
            refine thenP_n ?_
            refine SP_cond_t rfl ?_
            refine SP_seq ?_
            refine SP_region ?_
            refine SPL_y (y_move rfl) rfl ?_
            refine SPL_y (y_assign rfl) rfl ?_
            refine SPL_nil ?_
            refine thenP_n ?_
            refine SP_ret ?_
            refine thenP_ret (bodyP_ret (H' := []) (Res1 rfl rfl) (by repeat (first | exact Part.nil _ | (apply Part.cons; with_reducible (first | exact P0 | exact P1 | exact P2 | exact P3 | exact P4 | exact P5 | exact P6 | exact P7 | exact P8 | exact P9 | exact P10 | exact P11 | exact P12 | exact P13 | exact P14 | exact P15 | exact P16 | exact P17 | exact P18 | exact P19 | exact P20 | exact P21 | exact P22 | exact P23)) | (apply Part.flat; simp only [List.cons_append, List.nil_append]) | (apply Part.cons; (first | exact P0 | exact P1 | exact P2 | exact P3 | exact P4 | exact P5 | exact P6 | exact P7 | exact P8 | exact P9 | exact P10 | exact P11 | exact P12 | exact P13 | exact P14 | exact P15 | exact P16 | exact P17 | exact P18 | exact P19 | exact P20 | exact P21 | exact P22 | exact P23)) | (apply Part.nilc))) ?_)
            refine ⟨?_, rfl⟩
            unfold addW
            rw [if_neg (of_decide_eq_false hn), if_neg (of_decide_eq_false hi), if_neg (of_decide_eq_false hj), if_neg (of_decide_eq_false hz), if_pos (of_decide_eq_true hza)]
        · refine SPL_nil ?_
          refine thenP_n ?_
          refine SP_cond_t rfl ?_
          refine SP_seq ?_
          refine SP_region ?_
          refine SPL_y (y_move rfl) rfl ?_
          refine SPL_y (y_move rfl) rfl ?_
          refine SPL_y (y_and rfl rfl (w_zz ha hb (of_decide_eq_true hz).1 (of_decide_eq_true hz).2)) rfl ?_
          refine SPL_y (y_assign rfl) rfl ?_
          refine SPL_nil ?_
          refine thenP_n ?_
          refine SP_ret ?_
          refine thenP_ret (bodyP_ret (H' := []) (Res1 rfl rfl) (by repeat (first | exact Part.nil _ | (apply Part.cons; with_reducible (first | exact P0 | exact P1 | exact P2 | exact P3 | exact P4 | exact P5 | exact P6 | exact P7 | exact P8 | exact P9 | exact P10 | exact P11 | exact P12 | exact P13 | exact P14 | exact P15 | exact P16 | exact P17 | exact P18 | exact P19 | exact P20 | exact P21 | exact P22 | exact P23)) | (apply Part.flat; simp only [List.cons_append, List.nil_append]) | (apply Part.cons; (first | exact P0 | exact P1 | exact P2 | exact P3 | exact P4 | exact P5 | exact P6 | exact P7 | exact P8 | exact P9 | exact P10 | exact P11 | exact P12 | exact P13 | exact P14 | exact P15 | exact P16 | exact P17 | exact P18 | exact P19 | exact P20 | exact P21 | exact P22 | exact P23)) | (apply Part.nilc))) ?_)
          refine ⟨?_, rfl⟩
          unfold addW
          rw [if_neg (of_decide_eq_false hn), if_neg (of_decide_eq_false hi), if_neg (of_decide_eq_false hj), if_pos (of_decide_eq_true hz)]
      · refine SPL_nil ?_
        refine thenP_n ?_
        refine SP_cond_t rfl ?_
        refine SP_seq ?_
        refine SP_region ?_
        refine SPL_y (y_move rfl) rfl ?_
        refine SPL_y (y_assign rfl) rfl ?_
        refine SPL_nil ?_
        refine thenP_n ?_
        refine SP_ret ?_
        refine thenP_ret (bodyP_ret (H' := []) (Res1 rfl rfl) (by repeat (first | exact Part.nil _ | (apply Part.cons; with_reducible (first | exact P0 | exact P1 | exact P2 | exact P3 | exact P4 | exact P5 | exact P6 | exact P7 | exact P8 | exact P9 | exact P10 | exact P11 | exact P12 | exact P13 | exact P14 | exact P15 | exact P16 | exact P17 | exact P18 | exact P19 | exact P20 | exact P21 | exact P22 | exact P23)) | (apply Part.flat; simp only [List.cons_append, List.nil_append]) | (apply Part.cons; (first | exact P0 | exact P1 | exact P2 | exact P3 | exact P4 | exact P5 | exact P6 | exact P7 | exact P8 | exact P9 | exact P10 | exact P11 | exact P12 | exact P13 | exact P14 | exact P15 | exact P16 | exact P17 | exact P18 | exact P19 | exact P20 | exact P21 | exact P22 | exact P23)) | (apply Part.nilc))) ?_)
        refine ⟨?_, rfl⟩
        unfold addW
        rw [if_neg (of_decide_eq_false hn), if_neg (of_decide_eq_false hi), if_pos (of_decide_eq_true hj)]
    · refine SPL_nil ?_
      refine thenP_n ?_
      refine SP_cond_t rfl ?_
      refine SP_seq ?_
      refine SP_seq ?_
      refine SP_region ?_
      refine SPL_y (y_move rfl) rfl ?_
      refine SPL_one rfl (SP1_call (nm_isInf b hb) Tryz.call225 rfl rfl (by repeat (first | exact Part.nil _ | (apply Part.cons; with_reducible (first | exact P0 | exact P1 | exact P2 | exact P3 | exact P4 | exact P5 | exact P6 | exact P7 | exact P8 | exact P9 | exact P10 | exact P11 | exact P12 | exact P13 | exact P14 | exact P15 | exact P16 | exact P17 | exact P18 | exact P19 | exact P20 | exact P21 | exact P22 | exact P23)) | (apply Part.flat; simp only [List.cons_append, List.nil_append]) | (apply Part.cons; (first | exact P0 | exact P1 | exact P2 | exact P3 | exact P4 | exact P5 | exact P6 | exact P7 | exact P8 | exact P9 | exact P10 | exact P11 | exact P12 | exact P13 | exact P14 | exact P15 | exact P16 | exact P17 | exact P18 | exact P19 | exact P20 | exact P21 | exact P22 | exact P23)) | (apply Part.nilc))) ?_)
      rintro v post H' ⟨rfl, rfl⟩ hH
      try simp only [List.cons_append, List.nil_append] at hH
      subst hH
      generalize hj : decide (isInfW b) = qj
      rcases qj with _ | _
      · refine SPL_y (y_move rfl) rfl ?_
        refine SPL_gn rfl rfl rfl rfl ?_
        refine SPL_gn rfl rfl rfl rfl ?_
        refine SPL_gn rfl rfl rfl rfl ?_
        refine SPL_y (y_pick_f rfl rfl) rfl ?_
        refine SPL_nil ?_
        refine thenP_n ?_
        refine SP_cond_f rfl ?_
        refine SP_skip ?_
        refine thenP_n ?_
        refine SP_seq ?_
        refine SP_region ?_
        refine SPL_y (y_move rfl) rfl ?_
        refine SPL_y (y_assign rfl) rfl ?_
        refine SPL_nil ?_
        refine thenP_n ?_
        refine SP_ret ?_
        refine thenP_ret (bodyP_ret (H' := []) (Res1 rfl rfl) (by repeat (first | exact Part.nil _ | (apply Part.cons; with_reducible (first | exact P0 | exact P1 | exact P2 | exact P3 | exact P4 | exact P5 | exact P6 | exact P7 | exact P8 | exact P9 | exact P10 | exact P11 | exact P12 | exact P13 | exact P14 | exact P15 | exact P16 | exact P17 | exact P18 | exact P19 | exact P20 | exact P21 | exact P22 | exact P23)) | (apply Part.flat; simp only [List.cons_append, List.nil_append]) | (apply Part.cons; (first | exact P0 | exact P1 | exact P2 | exact P3 | exact P4 | exact P5 | exact P6 | exact P7 | exact P8 | exact P9 | exact P10 | exact P11 | exact P12 | exact P13 | exact P14 | exact P15 | exact P16 | exact P17 | exact P18 | exact P19 | exact P20 | exact P21 | exact P22 | exact P23)) | (apply Part.nilc))) ?_)
        refine ⟨?_, rfl⟩
        unfold addW
        rw [if_neg (of_decide_eq_false hn), if_pos (of_decide_eq_true hi), if_neg (fun q => (of_decide_eq_false hj) q.1)]
      · refine SPL_y (y_move rfl) rfl ?_
        refine SPL_gy rfl rfl ?_
        refine SPL_y (y_move rfl) rfl ?_
        refine SPL_gy rfl rfl ?_
        refine SPL_y (y_move rfl) rfl ?_
        refine SPL_gy rfl rfl ?_
        refine SPL_if (y_neq rfl rfl) rfl ?_ ?_
        · intro h4_5
          refine SPL_y (y_pick_t rfl rfl) rfl ?_
          refine SPL_nil ?_
          refine thenP_n ?_
          refine SP_cond_t rfl ?_
          refine SP_seq ?_
          refine SP_region ?_
          refine SPL_y (y_assign rfl) rfl ?_
          refine SPL_nil ?_
          refine thenP_n ?_
          refine SP_ret ?_
          refine thenP_ret (thenP_ret (bodyP_ret (H' := []) (Res1 rfl rfl) (by repeat (first | exact Part.nil _ | (apply Part.cons; with_reducible (first | exact P0 | exact P1 | exact P2 | exact P3 | exact P4 | exact P5 | exact P6 | exact P7 | exact P8 | exact P9 | exact P10 | exact P11 | exact P12 | exact P13 | exact P14 | exact P15 | exact P16 | exact P17 | exact P18 | exact P19 | exact P20 | exact P21 | exact P22 | exact P23)) | (apply Part.flat; simp only [List.cons_append, List.nil_append]) | (apply Part.cons; (first | exact P0 | exact P1 | exact P2 | exact P3 | exact P4 | exact P5 | exact P6 | exact P7 | exact P8 | exact P9 | exact P10 | exact P11 | exact P12 | exact P13 | exact P14 | exact P15 | exact P16 | exact P17 | exact P18 | exact P19 | exact P20 | exact P21 | exact P22 | exact P23)) | (apply Part.nilc))) ?_))
          refine ⟨?_, rfl⟩
          unfold addW
          rw [if_neg (of_decide_eq_false hn), if_pos (of_decide_eq_true hi), if_pos ⟨of_decide_eq_true hj, by omega⟩]; rfl
        intro h4_5
        refine SPL_y (y_pick_t rfl rfl) rfl ?_
        refine SPL_nil ?_
        refine thenP_n ?_
        refine SP_cond_f rfl ?_
        refine SP_skip ?_
        refine thenP_n ?_
        refine SP_seq ?_
        refine SP_region ?_
        refine SPL_y (y_move rfl) rfl ?_
        refine SPL_y (y_assign rfl) rfl ?_
        refine SPL_nil ?_
        refine thenP_n ?_
        refine SP_ret ?_
        refine thenP_ret (bodyP_ret (H' := []) (Res1 rfl rfl) (by repeat (first | exact Part.nil _ | (apply Part.cons; with_reducible (first | exact P0 | exact P1 | exact P2 | exact P3 | exact P4 | exact P5 | exact P6 | exact P7 | exact P8 | exact P9 | exact P10 | exact P11 | exact P12 | exact P13 | exact P14 | exact P15 | exact P16 | exact P17 | exact P18 | exact P19 | exact P20 | exact P21 | exact P22 | exact P23)) | (apply Part.flat; simp only [List.cons_append, List.nil_append]) | (apply Part.cons; (first | exact P0 | exact P1 | exact P2 | exact P3 | exact P4 | exact P5 | exact P6 | exact P7 | exact P8 | exact P9 | exact P10 | exact P11 | exact P12 | exact P13 | exact P14 | exact P15 | exact P16 | exact P17 | exact P18 | exact P19 | exact P20 | exact P21 | exact P22 | exact P23)) | (apply Part.nilc))) ?_)
        refine ⟨?_, rfl⟩
        unfold addW
        rw [if_neg (of_decide_eq_false hn), if_pos (of_decide_eq_true hi), if_neg (fun q => by omega)]
  · refine SPL_nil ?_
    refine thenP_n ?_
    refine SP_cond_t rfl ?_
    refine SP_seq ?_
    refine SP_region ?_
    refine SPL_y (y_assign rfl) rfl ?_
    refine SPL_nil ?_
    refine thenP_n ?_
    refine SP_ret ?_
    refine thenP_ret (bodyP_ret (H' := []) (Res1 rfl rfl) (by repeat (first | exact Part.nil _ | (apply Part.cons; with_reducible (first | exact P0 | exact P1 | exact P2 | exact P3 | exact P4 | exact P5 | exact P6 | exact P7 | exact P8 | exact P9 | exact P10 | exact P11 | exact P12 | exact P13 | exact P14 | exact P15 | exact P16 | exact P17 | exact P18 | exact P19 | exact P20 | exact P21 | exact P22 | exact P23)) | (apply Part.flat; simp only [List.cons_append, List.nil_append]) | (apply Part.cons; (first | exact P0 | exact P1 | exact P2 | exact P3 | exact P4 | exact P5 | exact P6 | exact P7 | exact P8 | exact P9 | exact P10 | exact P11 | exact P12 | exact P13 | exact P14 | exact P15 | exact P16 | exact P17 | exact P18 | exact P19 | exact P20 | exact P21 | exact P22 | exact P23)) | (apply Part.nilc))) ?_)
    refine ⟨?_, rfl⟩
    unfold addW
    rw [if_pos (of_decide_eq_true hn)]; rfl

end Go.Sl
