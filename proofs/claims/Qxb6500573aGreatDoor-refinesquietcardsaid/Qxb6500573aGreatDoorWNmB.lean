/- Walks: package numm, parts, pack (made by program out of short notes) -/
import Derived.Test.Qxb6500573aGreatDoorWNmA
namespace Go.Sl
open Go Go.Wl Go.Proofs
open Go.Nm
set_option maxRecDepth 100000
set_option linter.unusedVariables false
set_option linter.unusedSimpArgs false
theorem and2047i (a : Nat) (h : a < 4096) : bitI .and .i64 (a : Int) 2047 = ((a % 2048 : Nat) : Int) := by
  have e : BitVec.ofInt 64 (2047 : Int) = BitVec.ofNat 64 2047 := by decide
  show IntKind.i64.wrap ((BitVec.ofInt 64 (a : Int) &&& BitVec.ofInt 64 2047).toNat : Int) = _
  rw [e, ofInt_nat, BitVec.toNat_and, BitVec.toNat_ofNat, BitVec.toNat_ofNat, Nat.mod_eq_of_lt (show a < 2 ^ 64 by omega), show (2047 % 2 ^ 64) = 2 ^ 11 - 1 by decide, Nat.and_two_pow_sub_one_eq_mod, IntKind.wrap_i64]
  omega
theorem w_or52 {a : Nat} (h : a < 4503599627370496) : bitI .or .u64 (a : Int) 4503599627370496 = ((a + 4503599627370496 : Nat) : Int) := bit_or52 a h
def rP (top : Int) (m : Nat) (st : Bool) : Nat := if top < -1022 then rnS m (drpP top) st else (top + 1022).toNat * 4503599627370496 + rnS m (drpP top) st
theorem pack_b {s : Bool} {man : Nat} {ex : Int} {st : Bool} (h0 : man ≠ 0) (h : 1023 < ex + man.log2) : pkM s man ex st = sgB s + infB := by unfold pkM; rw [if_neg h0, if_pos h]
theorem pack_c {s : Bool} {man : Nat} {ex : Int} {st : Bool} (h0 : man ≠ 0) (h : ¬ 1023 < ex + man.log2) (h2 : 64 < drpP (ex + man.log2)) : pkM s man ex st = sgB s := by unfold pkM; rw [if_neg h0, if_neg h, if_pos h2]
theorem pack_d {s : Bool} {man : Nat} {ex : Int} {st : Bool} (h0 : man ≠ 0) (h : ¬ 1023 < ex + man.log2) (h2 : ¬ 64 < drpP (ex + man.log2)) : pkM s man ex st = if infB ≤ rP (ex + man.log2) (man * 2 ^ (63 - man.log2)) st then sgB s + infB else sgB s + rP (ex + man.log2) (man * 2 ^ (63 - man.log2)) st := by unfold pkM; rw [if_neg h0, if_neg h, if_neg h2]; rfl
theorem pw_lt {D : Nat} (h : D < 64) : 2 ^ D < 18446744073709551616 := by
  have : 2 ^ D < 2 ^ 64 := Nat.pow_lt_pow_right (by decide) h
  simpa using this
theorem shl1 {D : Nat} (h : D < 64) : IntKind.u64.wrap ((1 : Int) * 2 ^ (min ((D : Int)).toNat IntKind.u64.bits)) = ((2 ^ D : Nat) : Int) := by
  have := w_shl (x := 1) (k := D) (by omega)
  rw [Nat.one_mul, Nat.mod_eq_of_lt (pw_lt h)] at this
  exact this
theorem w_mask {m D : Nat} (hm : m < 18446744073709551616) (h : D < 64) : bitI .and .u64 (m : Int) ((2 ^ D - 1 : Nat) : Int) = ((m % 2 ^ D : Nat) : Int) := by
  rw [w_and hm (by have := pw_lt h; omega), and_mod]
theorem sub1 {D : Nat} (h : D < 64) : IntKind.u64.wrap (((2 ^ D : Nat) : Int) - 1) = ((2 ^ D - 1 : Nat) : Int) := by
  have h1 := pw_lt h
  have h2 : 0 < 2 ^ D := Nat.two_pow_pos D
  rw [show ((2 ^ D : Nat) : Int) - 1 = ((2 ^ D - 1 : Nat) : Int) by omega]
  exact u64n (by omega)
theorem beq_dec (q : Nat) : decide ((q : Int) = 1) = (q == 1) := by
  by_cases h : q = 1
  · subst h; rfl
  · rw [decide_eq_false (by omega)]; exact (beq_false_of_ne h).symm
theorem w_and1 {q : Nat} (h : q < 18446744073709551616) : bitI .and .u64 (q : Int) 1 = ((q % 2 : Nat) : Int) := by
  have := w_and h (y := 1) (by decide)
  rw [show ((1 : Nat) : Int) = 1 from rfl] at this
  rw [this, show (1 : Nat) = 2 ^ 1 - 1 by decide, and_mod]
theorem up_eq {m D : Nat} {st : Bool} (h : m % 2 ^ D = 2 ^ (D - 1)) : upS m D st = (st || m / 2 ^ D % 2 == 1) := by unfold upS; rw [if_pos h]
theorem up_ne {m D : Nat} {st : Bool} (h : ¬ m % 2 ^ D = 2 ^ (D - 1)) : upS m D st = decide (2 ^ (D - 1) < m % 2 ^ D) := by unfold upS; rw [if_neg h]
theorem rnS_lt {m D : Nat} (hm : m < 18446744073709551616) (hD : 11 ≤ D) (st : Bool) : rnS m D st ≤ 9007199254740992 := by
  have h : 2 ^ 11 ≤ 2 ^ D := Nat.pow_le_pow_right (by decide) hD
  have h2 : m / 2 ^ D ≤ m / 2 ^ 11 := Nat.div_le_div_left h (by decide)
  have h3 : m / 2 ^ 11 < 9007199254740992 := by omega
  unfold rnS; split <;> omega

theorem nm_parts (x : Nat) (hx : x < 18446744073709551616) : Spec Tryz.prog 227 [.int .u64 ((x : Nat) : Int)] [] (Ret fun v H => v = .tuple #[.int .u64 ((pM x : Nat) : Int), I (pE x)] ∧ H = []) := by
  refine Spec_enter Tryz.func227 rfl Tryz.ntmps227 rfl ?_
  show SP _ _ _ _ _ [(0, _)] _
  refine SP_seq ?_
  refine SP_region ?_
  refine SPL_y (y_assign rfl) rfl ?_
  refine SPL_y (y_assign rfl) rfl ?_
  refine SPL_nil ?_
  refine thenP_n ?_
  refine SP_seq ?_
  refine SP_region ?_
  refine SPL_y (y_move rfl) rfl ?_
  refine SPL_y (y_shr rfl rfl (by decide) (show _ = ((x / 4503599627370496 : Nat) : Int) from w_shr (k := 52) (by decide))) rfl ?_
  refine SPL_y (y_conv Tryz.underlying40 Tryz.underlying3 rfl (show IntKind.i64.wrap ((x / 4503599627370496 : Nat) : Int) = ((x / 4503599627370496 : Nat) : Int) by rw [IntKind.wrap_i64]; omega)) rfl ?_
  refine SPL_y (y_and rfl rfl (and2047i _ (by omega))) rfl ?_
  refine SPL_y (y_assign rfl) rfl ?_
  refine SPL_nil ?_
  refine thenP_n ?_
  refine SP_seq ?_
  refine SP_region ?_
  refine SPL_y (y_move rfl) rfl ?_
  refine SPL_y (y_and rfl rfl (w_man hx)) rfl ?_
  refine SPL_y (y_assign rfl) rfl ?_
  refine SPL_nil ?_
  refine thenP_n ?_
  refine SP_seq ?_
  refine SP_seq ?_
  refine SP_region ?_
  refine SPL_y (y_move rfl) rfl ?_
  refine SPL_if (y_eql rfl rfl) rfl ?_ ?_
  · intro h3_1
    refine SPL_nil ?_
    refine thenP_n ?_
    refine SP_cond_t rfl ?_
    refine SP_seq ?_
    refine SP_region ?_
    refine SPL_y (y_move rfl) rfl ?_
    refine SPL_y (y_assign rfl) rfl ?_
    refine SPL_y (y_assign rfl) rfl ?_
    refine SPL_nil ?_
    refine thenP_n ?_
    refine SP_ret ?_
    refine thenP_ret (bodyP_ret (H' := []) (Res2 rfl rfl rfl) (by repeat (first | exact Part.nil _ | (apply Part.cons; with_reducible (first | exact P0 | exact P1 | exact P2 | exact P3 | exact P4 | exact P5 | exact P6 | exact P7 | exact P8 | exact P9 | exact P10 | exact P11 | exact P12 | exact P13 | exact P14 | exact P15 | exact P16 | exact P17 | exact P18 | exact P19 | exact P20 | exact P21 | exact P22 | exact P23)) | (apply Part.flat; simp only [List.cons_append, List.nil_append]) | (apply Part.cons; (first | exact P0 | exact P1 | exact P2 | exact P3 | exact P4 | exact P5 | exact P6 | exact P7 | exact P8 | exact P9 | exact P10 | exact P11 | exact P12 | exact P13 | exact P14 | exact P15 | exact P16 | exact P17 | exact P18 | exact P19 | exact P20 | exact P21 | exact P22 | exact P23)) | (apply Part.nilc))) ?_)
    refine ⟨?_, rfl⟩
    unfold pM pE
    rw [if_pos (by omega), if_pos (by omega)]
  intro h3_1
  refine SPL_nil ?_
  refine thenP_n ?_
  refine SP_cond_f rfl ?_
  refine SP_skip ?_
  refine thenP_n ?_
  refine SP_seq ?_
  refine SP_region ?_
  refine SPL_y (y_move rfl) rfl ?_
  refine SPL_y (y_or rfl rfl (w_or52 (Nat.mod_lt _ (by decide)))) rfl ?_
  refine SPL_y (y_move rfl) rfl ?_
  refine SPL_y (y_sub rfl rfl (by omega)) rfl ?_
  refine SPL_y (y_assign rfl) rfl ?_
  refine SPL_y (y_assign rfl) rfl ?_
  refine SPL_nil ?_
  refine thenP_n ?_
  refine SP_ret ?_
  refine bodyP_ret (H' := []) (Res2 rfl rfl rfl) (by repeat (first | exact Part.nil _ | (apply Part.cons; with_reducible (first | exact P0 | exact P1 | exact P2 | exact P3 | exact P4 | exact P5 | exact P6 | exact P7 | exact P8 | exact P9 | exact P10 | exact P11 | exact P12 | exact P13 | exact P14 | exact P15 | exact P16 | exact P17 | exact P18 | exact P19 | exact P20 | exact P21 | exact P22 | exact P23)) | (apply Part.flat; simp only [List.cons_append, List.nil_append]) | (apply Part.cons; (first | exact P0 | exact P1 | exact P2 | exact P3 | exact P4 | exact P5 | exact P6 | exact P7 | exact P8 | exact P9 | exact P10 | exact P11 | exact P12 | exact P13 | exact P14 | exact P15 | exact P16 | exact P17 | exact P18 | exact P19 | exact P20 | exact P21 | exact P22 | exact P23)) | (apply Part.nilc))) ?_
  refine ⟨?_, rfl⟩
  unfold pM pE
  rw [if_neg (by omega), if_neg (by omega)]

theorem sg_zero {x : Nat} (h : x < 18446744073709551616) (q : ((sgB (sgW x) : Nat) : Int) = 0) : x < 9223372036854775808 := by
  refine Decidable.byContradiction fun c => ?_
  rw [(sg_iff h).2 (Nat.not_lt.1 c)] at q
  exact absurd q (by decide)
theorem sg_zero2 {x : Nat} (h : x < 18446744073709551616) (q : x < 9223372036854775808) : ((sgB (sgW x) : Nat) : Int) = 0 := by
  have : ¬ sgW x = true := fun c => by have := (sg_iff h).1 c; omega
  rw [show sgW x = false by simpa using this]; rfl
theorem nm_pack (s : Bool) (man : Nat) (ex : Int) (st : Bool) (hm : man < 18446744073709551616) (hex : -30000 ≤ ex ∧ ex ≤ 30000) : Spec Tryz.prog 171 [.int .u64 ((sgB s : Nat) : Int), .int .u64 ((man : Nat) : Int), I ex, .bool st] [] (Ret fun v H => v = .int .u64 ((pkM s man ex st : Nat) : Int) ∧ H = []) := by
  have hl64 := log2_lt64 hm
  refine Spec_enter Tryz.func171 rfl Tryz.ntmps171 rfl ?_
  show SP _ _ _ _ _ [(0, _), (1, _), (2, _), (3, _)] _
  refine SP_seq ?_
  refine SP_region ?_
  refine SPL_y (y_assign rfl) rfl ?_
  refine SPL_nil ?_
  refine thenP_n ?_
  refine SP_seq ?_
  refine SP_seq ?_
  refine SP_region ?_
  refine SPL_y (y_move rfl) rfl ?_
  refine SPL_if (y_eql rfl rfl) rfl ?_ ?_
  · intro h1_1
    refine SPL_nil ?_
    refine thenP_n ?_
    refine SP_cond_t rfl ?_
    refine SP_seq ?_
    refine SP_region ?_
    refine SPL_y (y_move rfl) rfl ?_
    refine SPL_y (y_assign rfl) rfl ?_
    refine SPL_nil ?_
    refine thenP_n ?_
    refine SP_ret ?_
    refine thenP_ret (bodyP_ret (H' := []) (Res1 rfl rfl) (by repeat (first | exact Part.nil _ | (apply Part.cons; with_reducible (first | exact P0 | exact P1 | exact P2 | exact P3 | exact P4 | exact P5 | exact P6 | exact P7 | exact P8 | exact P9 | exact P10 | exact P11 | exact P12 | exact P13 | exact P14 | exact P15 | exact P16 | exact P17 | exact P18 | exact P19 | exact P20 | exact P21 | exact P22 | exact P23)) | (apply Part.flat; simp only [List.cons_append, List.nil_append]) | (apply Part.cons; (first | exact P0 | exact P1 | exact P2 | exact P3 | exact P4 | exact P5 | exact P6 | exact P7 | exact P8 | exact P9 | exact P10 | exact P11 | exact P12 | exact P13 | exact P14 | exact P15 | exact P16 | exact P17 | exact P18 | exact P19 | exact P20 | exact P21 | exact P22 | exact P23)) | (apply Part.nilc))) ?_)
    refine ⟨?_, rfl⟩
    unfold pkM
    rw [if_pos (by omega)]
  intro h1_1
  refine SPL_nil ?_
  refine thenP_n ?_
  refine SP_cond_f rfl ?_
  refine SP_skip ?_
  refine thenP_n ?_
  refine SP_seq ?_
  refine SP_block ?_
  refine SP_loop (G := Nat × Nat × Int) (fun g => 63 - man.log2 - g.1) (fun g => [(0, .int .u64 ((sgB s : Nat) : Int)), (1, .int .u64 ((g.2.1 : Nat) : Int)), (2, I g.2.2), (3, .bool st)]) (fun _ => []) (fun g => g.1 ≤ 63 - man.log2 ∧ g.2.1 = man * 2 ^ g.1 ∧ g.2.2 = ex - g.1) ((0, man, ex)) (⟨Nat.zero_le _, by simp, by simp⟩) (by repeat (first | exact Sub.nil _ | refine Sub.cons rfl ?_)) (by repeat (first | exact Part.nil _ | (apply Part.cons; with_reducible (first | exact P0 | exact P1 | exact P2 | exact P3 | exact P4 | exact P5 | exact P6 | exact P7 | exact P8 | exact P9 | exact P10 | exact P11 | exact P12 | exact P13 | exact P14 | exact P15 | exact P16 | exact P17 | exact P18 | exact P19 | exact P20 | exact P21 | exact P22 | exact P23)) | (apply Part.flat; simp only [List.cons_append, List.nil_append]) | (apply Part.cons; (first | exact P0 | exact P1 | exact P2 | exact P3 | exact P4 | exact P5 | exact P6 | exact P7 | exact P8 | exact P9 | exact P10 | exact P11 | exact P12 | exact P13 | exact P14 | exact P15 | exact P16 | exact P17 | exact P18 | exact P19 | exact P20 | exact P21 | exact P22 | exact P23)) | (apply Part.nilc))) ?_
  rintro ⟨k, mk, ek⟩ ⟨hk, hmk1, hek1⟩
  dsimp only at hk hmk1 hek1 ⊢
  subst hmk1 hek1
  have h0 : man ≠ 0 := by omega
  have hlk := log2_mul (m := man) k h0
  have hmk0 : man * 2 ^ k ≠ 0 := Nat.ne_of_gt (Nat.mul_pos (Nat.pos_of_ne_zero h0) (Nat.two_pow_pos k))
  have hmk : man * 2 ^ k < 18446744073709551616 := by
    have : man * 2 ^ k < 2 ^ 64 := (Nat.log2_lt hmk0).1 (by omega)
    simpa using this
  refine SP_seq ?_
  refine SP_seq ?_
  refine SP_region ?_
  refine SPL_y (y_move rfl) rfl ?_
  refine SPL_y (y_and rfl rfl (w_sg hmk)) rfl ?_
  refine SPL_if (y_eql rfl rfl) rfl ?_ ?_
  · intro h3_2
    refine SPL_nil ?_
    refine thenP_n ?_
    refine SP_cond_t rfl ?_
    refine SP_skip ?_
    refine thenP_n ?_
    refine SP_block ?_
    refine SP_seq ?_
    refine SP_region ?_
    refine SPL_y (y_move rfl) rfl ?_
    have hs := sg_zero hmk h3_2
    have hlt : man.log2 + k < 63 := by rw [← hlk]; exact (Nat.log2_lt hmk0).2 (by simpa using hs)
    have hshl : IntKind.u64.wrap (((man * 2 ^ k : Nat) : Int) * 2 ^ (min (1 : Int).toNat IntKind.u64.bits)) = ((man * 2 ^ (k + 1) : Nat) : Int) := by
      have := w_shl (x := man * 2 ^ k) (k := 1) (by decide)
      rw [Nat.mod_eq_of_lt (by omega), Nat.mul_assoc, ← Nat.pow_add] at this
      exact this
    refine SPL_y (y_shl rfl rfl (by decide) (show _ = ((man * 2 ^ (k + 1) : Nat) : Int) from hshl)) rfl ?_
    refine SPL_y (y_assign rfl) rfl ?_
    refine SPL_nil ?_
    refine thenP_n ?_
    refine SP_region ?_
    refine SPL_y (y_move rfl) rfl ?_
    refine SPL_y (y_sub rfl rfl (by omega)) rfl ?_
    refine SPL_y (y_assign rfl) rfl ?_
    refine SPL_nil ?_
    refine inBlockP_n ?_
    refine thenP_n ?_
    have hs := sg_zero hmk h3_2
    have hlt : man.log2 + k < 63 := by rw [← hlk]; exact (Nat.log2_lt hmk0).2 (by simpa using hs)
    exact Again.intro ((k + 1, man * 2 ^ (k + 1), ex - (k : Int) - 1)) (⟨by dsimp only; omega, rfl, by dsimp only; omega⟩) (by dsimp only; omega) (by repeat (first | exact Sub.nil _ | refine Sub.cons rfl ?_)) (by repeat (first | exact Part.nil _ | (apply Part.cons; with_reducible (first | exact P0 | exact P1 | exact P2 | exact P3 | exact P4 | exact P5 | exact P6 | exact P7 | exact P8 | exact P9 | exact P10 | exact P11 | exact P12 | exact P13 | exact P14 | exact P15 | exact P16 | exact P17 | exact P18 | exact P19 | exact P20 | exact P21 | exact P22 | exact P23)) | (apply Part.flat; simp only [List.cons_append, List.nil_append]) | (apply Part.cons; (first | exact P0 | exact P1 | exact P2 | exact P3 | exact P4 | exact P5 | exact P6 | exact P7 | exact P8 | exact P9 | exact P10 | exact P11 | exact P12 | exact P13 | exact P14 | exact P15 | exact P16 | exact P17 | exact P18 | exact P19 | exact P20 | exact P21 | exact P22 | exact P23)) | (apply Part.nilc)))
  intro h3_2
  refine SPL_nil ?_
  refine thenP_n ?_
  refine SP_cond_f rfl ?_
  refine SP_exit ?_
  refine thenP_exit ?_
  refine thenP_exit ?_
  refine inBlockP_hit ?_
  refine thenP_n ?_
  refine SP_seq ?_
  refine SP_region ?_
  have hge : ¬ man * 2 ^ k < 9223372036854775808 := fun q => h3_2 (sg_zero2 hmk q)
  obtain rfl : k = 63 - man.log2 := by
    have : 63 ≤ (man * 2 ^ k).log2 := by rw [Nat.le_log2 hmk0]; simpa using Nat.not_lt.1 hge
    omega
  clear hmk0 hlk hk
  have hm2 : man * 2 ^ (63 - man.log2) < 18446744073709551616 := hmk
  have hm1 : 9223372036854775808 ≤ man * 2 ^ (63 - man.log2) := Nat.not_lt.1 hge
  clear hmk hge h3_2
  obtain ⟨top, htop⟩ : ∃ top : Int, top = ex + (man.log2 : Int) := ⟨_, rfl⟩
  obtain ⟨m, hmm⟩ : ∃ m : Nat, m = man * 2 ^ (63 - man.log2) := ⟨_, rfl⟩
  rw [← hmm] at hm1 hm2 ⊢
  refine SPL_y (y_move rfl) rfl ?_
  refine SPL_y (y_add rfl rfl (by omega)) rfl ?_
  rw [show ex - ((63 - man.log2 : Nat) : Int) + 63 = top by omega]
  refine SPL_y (y_assign rfl) rfl ?_
  refine SPL_nil ?_
  refine thenP_n ?_
  refine SP_seq ?_
  refine SP_seq ?_
  refine SP_region ?_
  refine SPL_y (y_move rfl) rfl ?_
  refine SPL_if (y_gtr rfl rfl) rfl ?_ ?_
  · intro h7_1
    refine SPL_nil ?_
    refine thenP_n ?_
    refine SP_cond_t rfl ?_
    refine SP_seq ?_
    refine SP_region ?_
    refine SPL_y (y_move rfl) rfl ?_
    refine SPL_y (y_or rfl rfl (w_orI s)) rfl ?_
    refine SPL_y (y_assign rfl) rfl ?_
    refine SPL_nil ?_
    refine thenP_n ?_
    refine SP_ret ?_
    refine thenP_ret (bodyP_ret (H' := []) (Res1 rfl rfl) (by repeat (first | exact Part.nil _ | (apply Part.cons; with_reducible (first | exact P0 | exact P1 | exact P2 | exact P3 | exact P4 | exact P5 | exact P6 | exact P7 | exact P8 | exact P9 | exact P10 | exact P11 | exact P12 | exact P13 | exact P14 | exact P15 | exact P16 | exact P17 | exact P18 | exact P19 | exact P20 | exact P21 | exact P22 | exact P23)) | (apply Part.flat; simp only [List.cons_append, List.nil_append]) | (apply Part.cons; (first | exact P0 | exact P1 | exact P2 | exact P3 | exact P4 | exact P5 | exact P6 | exact P7 | exact P8 | exact P9 | exact P10 | exact P11 | exact P12 | exact P13 | exact P14 | exact P15 | exact P16 | exact P17 | exact P18 | exact P19 | exact P20 | exact P21 | exact P22 | exact P23)) | (apply Part.nilc))) ?_)
    exact ⟨by rw [pack_b h0 (by omega)], rfl⟩
  intro h7_1
  refine SPL_nil ?_
  refine thenP_n ?_
  refine SP_cond_f rfl ?_
  refine SP_skip ?_
  refine thenP_n ?_
  refine SP_seq ?_
  refine SP_region ?_
  refine SPL_y (y_assign rfl) rfl ?_
  refine SPL_nil ?_
  refine thenP_n ?_
  refine SP_mid (G := Unit) (fun _ => [(0, .int .u64 ((sgB s : Nat) : Int)), (1, .int .u64 ((m : Nat) : Int)), (3, .bool st), (9, I top), (10, I ((drpP top : Nat) : Int))]) (fun _ => []) (fun _ => True) ?_ ?_
  · refine SP_seq ?_
    refine SP_region ?_
    refine SPL_y (y_move rfl) rfl ?_
    refine SPL_ifn (y_lss rfl rfl) rfl ?_ ?_
    · intro h10_1
      refine SPL_nil ?_
      refine thenP_n ?_
      refine SP_cond_f rfl ?_
      refine SP_skip ?_
      refine thenP_n ?_
      rw [show (11 : Int) = ((drpP top : Nat) : Int) by unfold drpP; rw [if_neg h10_1]; rfl]
      exact Mid.intro (()) (trivial) (by repeat (first | exact Sub.nil _ | refine Sub.cons rfl ?_)) (by repeat (first | exact Part.nil _ | (apply Part.cons; with_reducible (first | exact P0 | exact P1 | exact P2 | exact P3 | exact P4 | exact P5 | exact P6 | exact P7 | exact P8 | exact P9 | exact P10 | exact P11 | exact P12 | exact P13 | exact P14 | exact P15 | exact P16 | exact P17 | exact P18 | exact P19 | exact P20 | exact P21 | exact P22 | exact P23)) | (apply Part.flat; simp only [List.cons_append, List.nil_append]) | (apply Part.cons; (first | exact P0 | exact P1 | exact P2 | exact P3 | exact P4 | exact P5 | exact P6 | exact P7 | exact P8 | exact P9 | exact P10 | exact P11 | exact P12 | exact P13 | exact P14 | exact P15 | exact P16 | exact P17 | exact P18 | exact P19 | exact P20 | exact P21 | exact P22 | exact P23)) | (apply Part.nilc)))
    intro h10_1
    refine SPL_nil ?_
    refine thenP_n ?_
    refine SP_cond_t rfl ?_
    refine SP_region ?_
    refine SPL_y (y_move rfl) rfl ?_
    refine SPL_y (y_sub rfl rfl (by omega)) rfl ?_
    refine SPL_y (y_add rfl rfl (by omega)) rfl ?_
    refine SPL_y (y_assign rfl) rfl ?_
    refine SPL_nil ?_
    refine thenP_n ?_
    rw [show (11 : Int) + (-1022 - top) = ((drpP top : Nat) : Int) by unfold drpP; rw [if_pos h10_1]; omega]
    exact Mid.intro (()) (trivial) (by repeat (first | exact Sub.nil _ | refine Sub.cons rfl ?_)) (by repeat (first | exact Part.nil _ | (apply Part.cons; with_reducible (first | exact P0 | exact P1 | exact P2 | exact P3 | exact P4 | exact P5 | exact P6 | exact P7 | exact P8 | exact P9 | exact P10 | exact P11 | exact P12 | exact P13 | exact P14 | exact P15 | exact P16 | exact P17 | exact P18 | exact P19 | exact P20 | exact P21 | exact P22 | exact P23)) | (apply Part.flat; simp only [List.cons_append, List.nil_append]) | (apply Part.cons; (first | exact P0 | exact P1 | exact P2 | exact P3 | exact P4 | exact P5 | exact P6 | exact P7 | exact P8 | exact P9 | exact P10 | exact P11 | exact P12 | exact P13 | exact P14 | exact P15 | exact P16 | exact P17 | exact P18 | exact P19 | exact P20 | exact P21 | exact P22 | exact P23)) | (apply Part.nilc)))
  rintro _ _
  have hd11 : 11 ≤ drpP top := by unfold drpP; split <;> omega
  refine SP_seq ?_
  refine SP_seq ?_
  refine SP_region ?_
  refine SPL_y (y_move rfl) rfl ?_
  refine SPL_if (y_gtr rfl rfl) rfl ?_ ?_
  · intro h12_1
    refine SPL_nil ?_
    refine thenP_n ?_
    refine SP_cond_t rfl ?_
    refine SP_seq ?_
    refine SP_region ?_
    refine SPL_y (y_move rfl) rfl ?_
    refine SPL_y (y_assign rfl) rfl ?_
    refine SPL_nil ?_
    refine thenP_n ?_
    refine SP_ret ?_
    refine thenP_ret (bodyP_ret (H' := []) (Res1 rfl rfl) (by repeat (first | exact Part.nil _ | (apply Part.cons; with_reducible (first | exact P0 | exact P1 | exact P2 | exact P3 | exact P4 | exact P5 | exact P6 | exact P7 | exact P8 | exact P9 | exact P10 | exact P11 | exact P12 | exact P13 | exact P14 | exact P15 | exact P16 | exact P17 | exact P18 | exact P19 | exact P20 | exact P21 | exact P22 | exact P23)) | (apply Part.flat; simp only [List.cons_append, List.nil_append]) | (apply Part.cons; (first | exact P0 | exact P1 | exact P2 | exact P3 | exact P4 | exact P5 | exact P6 | exact P7 | exact P8 | exact P9 | exact P10 | exact P11 | exact P12 | exact P13 | exact P14 | exact P15 | exact P16 | exact P17 | exact P18 | exact P19 | exact P20 | exact P21 | exact P22 | exact P23)) | (apply Part.nilc))) ?_)
    exact ⟨by rw [pack_c h0 (by omega) (by rw [← htop]; omega)], rfl⟩
  intro h12_1
  refine SPL_nil ?_
  refine thenP_n ?_
  refine SP_cond_f rfl ?_
  refine SP_skip ?_
  refine thenP_n ?_
  refine SP_seq ?_
  refine SP_region ?_
  refine SPL_y (y_assign rfl) rfl ?_
  refine SPL_y (y_assign rfl) rfl ?_
  refine SPL_y (y_assign rfl) rfl ?_
  refine SPL_nil ?_
  refine thenP_n ?_
  refine SP_mid (G := Unit) (fun _ => [(0, .int .u64 ((sgB s : Nat) : Int)), (3, .bool st), (9, I top), (11, .int .u64 ((m / 2 ^ drpP top : Nat) : Int)), (12, .int .u64 ((m % 2 ^ drpP top : Nat) : Int)), (13, .int .u64 ((2 ^ (drpP top - 1) : Nat) : Int))]) (fun _ => []) (fun _ => True) ?_ ?_
  · refine SP_seq ?_
    refine SP_region ?_
    refine SPL_y (y_move rfl) rfl ?_
    refine SPL_if (y_eql rfl rfl) rfl ?_ ?_
    · intro h15_1
      refine SPL_nil ?_
      refine thenP_n ?_
      refine SP_cond_t rfl ?_
      refine SP_seq ?_
      refine SP_region ?_
      refine SPL_y (y_assign rfl) rfl ?_
      refine SPL_nil ?_
      refine thenP_n ?_
      refine SP_seq ?_
      refine SP_region ?_
      refine SPL_y (y_move rfl) rfl ?_
      refine SPL_y (y_assign rfl) rfl ?_
      refine SPL_nil ?_
      refine thenP_n ?_
      refine SP_region ?_
      refine SPL_y (y_assign rfl) rfl ?_
      refine SPL_nil ?_
      refine thenP_n ?_
      have hD : drpP top = 64 := by omega
      rw [show (0 : Int) = ((m / 2 ^ drpP top : Nat) : Int) by rw [hD, Nat.div_eq_of_lt (by simpa using hm2)]; rfl, show ((m : Nat) : Int) = ((m % 2 ^ drpP top : Nat) : Int) by rw [hD, Nat.mod_eq_of_lt (by simpa using hm2)], show (9223372036854775808 : Int) = ((2 ^ (drpP top - 1) : Nat) : Int) by rw [hD]; rfl]
      exact Mid.intro (()) (trivial) (by repeat (first | exact Sub.nil _ | refine Sub.cons rfl ?_)) (by repeat (first | exact Part.nil _ | (apply Part.cons; with_reducible (first | exact P0 | exact P1 | exact P2 | exact P3 | exact P4 | exact P5 | exact P6 | exact P7 | exact P8 | exact P9 | exact P10 | exact P11 | exact P12 | exact P13 | exact P14 | exact P15 | exact P16 | exact P17 | exact P18 | exact P19 | exact P20 | exact P21 | exact P22 | exact P23)) | (apply Part.flat; simp only [List.cons_append, List.nil_append]) | (apply Part.cons; (first | exact P0 | exact P1 | exact P2 | exact P3 | exact P4 | exact P5 | exact P6 | exact P7 | exact P8 | exact P9 | exact P10 | exact P11 | exact P12 | exact P13 | exact P14 | exact P15 | exact P16 | exact P17 | exact P18 | exact P19 | exact P20 | exact P21 | exact P22 | exact P23)) | (apply Part.nilc)))
    intro h15_1
    refine SPL_nil ?_
    refine thenP_n ?_
    refine SP_cond_f rfl ?_
    refine SP_seq ?_
    have hD64 : drpP top < 64 := by omega
    refine SP_region ?_
    refine SPL_y (y_move rfl) rfl ?_
    refine SPL_y (y_move rfl) rfl ?_
    refine SPL_y (y_conv Tryz.underlying3 Tryz.underlying75 rfl (u64n (by omega))) rfl ?_
    refine SPL_y (y_shr rfl rfl (by omega) (w_shr (by omega))) rfl ?_
    refine SPL_y (y_assign rfl) rfl ?_
    refine SPL_nil ?_
    refine thenP_n ?_
    refine SP_seq ?_
    refine SP_region ?_
    refine SPL_y (y_move rfl) rfl ?_
    refine SPL_y (y_move rfl) rfl ?_
    refine SPL_y (y_conv Tryz.underlying3 Tryz.underlying75 rfl (u64n (by omega))) rfl ?_
    refine SPL_y (y_shl rfl rfl (by omega) (shl1 hD64)) rfl ?_
    refine SPL_y (y_subw rfl rfl (sub1 hD64)) rfl ?_
    refine SPL_y (y_and rfl rfl (w_mask hm2 hD64)) rfl ?_
    refine SPL_y (y_assign rfl) rfl ?_
    refine SPL_nil ?_
    refine thenP_n ?_
    refine SP_region ?_
    refine SPL_y (y_move rfl) rfl ?_
    refine SPL_y (y_sub rfl rfl (by omega)) rfl ?_
    refine SPL_y (y_conv Tryz.underlying3 Tryz.underlying75 rfl (show IntKind.u64.wrap (((drpP top : Nat) : Int) - 1) = ((drpP top - 1 : Nat) : Int) by rw [show ((drpP top : Nat) : Int) - 1 = ((drpP top - 1 : Nat) : Int) by omega]; exact u64n (by omega))) rfl ?_
    refine SPL_y (y_shl rfl rfl (by omega) (shl1 (by omega))) rfl ?_
    refine SPL_y (y_assign rfl) rfl ?_
    refine SPL_nil ?_
    refine thenP_n ?_
    exact Mid.intro (()) (trivial) (by repeat (first | exact Sub.nil _ | refine Sub.cons rfl ?_)) (by repeat (first | exact Part.nil _ | (apply Part.cons; with_reducible (first | exact P0 | exact P1 | exact P2 | exact P3 | exact P4 | exact P5 | exact P6 | exact P7 | exact P8 | exact P9 | exact P10 | exact P11 | exact P12 | exact P13 | exact P14 | exact P15 | exact P16 | exact P17 | exact P18 | exact P19 | exact P20 | exact P21 | exact P22 | exact P23)) | (apply Part.flat; simp only [List.cons_append, List.nil_append]) | (apply Part.cons; (first | exact P0 | exact P1 | exact P2 | exact P3 | exact P4 | exact P5 | exact P6 | exact P7 | exact P8 | exact P9 | exact P10 | exact P11 | exact P12 | exact P13 | exact P14 | exact P15 | exact P16 | exact P17 | exact P18 | exact P19 | exact P20 | exact P21 | exact P22 | exact P23)) | (apply Part.nilc)))
  rintro _ _
  refine SP_seq ?_
  refine SP_region ?_
  refine SPL_y (y_move rfl) rfl ?_
  refine SPL_y (y_move rfl) rfl ?_
  refine SPL_y (y_gtr rfl rfl) rfl ?_
  refine SPL_y (y_assign rfl) rfl ?_
  refine SPL_nil ?_
  refine thenP_n ?_
  refine SP_mid (G := Bool) (fun up => [(0, .int .u64 ((sgB s : Nat) : Int)), (9, I top), (11, .int .u64 ((m / 2 ^ drpP top : Nat) : Int)), (14, .bool up)]) (fun _ => []) (fun up => up = upS m (drpP top) st) ?_ ?_
  · refine SP_seq ?_
    refine SP_region ?_
    refine SPL_y (y_move rfl) rfl ?_
    refine SPL_y (y_move rfl) rfl ?_
    refine SPL_ifn (y_eql rfl rfl) rfl ?_ ?_
    · intro h23_2
      refine SPL_nil ?_
      refine thenP_n ?_
      refine SP_cond_f rfl ?_
      refine SP_skip ?_
      refine thenP_n ?_
      exact Mid.intro (decide (((2 ^ (drpP top - 1) : Nat) : Int) < ((m % 2 ^ drpP top : Nat) : Int))) (by rw [up_ne (by omega)]; exact decide_eq_decide.2 (by omega)) (by repeat (first | exact Sub.nil _ | refine Sub.cons rfl ?_)) (by repeat (first | exact Part.nil _ | (apply Part.cons; with_reducible (first | exact P0 | exact P1 | exact P2 | exact P3 | exact P4 | exact P5 | exact P6 | exact P7 | exact P8 | exact P9 | exact P10 | exact P11 | exact P12 | exact P13 | exact P14 | exact P15 | exact P16 | exact P17 | exact P18 | exact P19 | exact P20 | exact P21 | exact P22 | exact P23)) | (apply Part.flat; simp only [List.cons_append, List.nil_append]) | (apply Part.cons; (first | exact P0 | exact P1 | exact P2 | exact P3 | exact P4 | exact P5 | exact P6 | exact P7 | exact P8 | exact P9 | exact P10 | exact P11 | exact P12 | exact P13 | exact P14 | exact P15 | exact P16 | exact P17 | exact P18 | exact P19 | exact P20 | exact P21 | exact P22 | exact P23)) | (apply Part.nilc)))
    intro h23_2
    refine SPL_nil ?_
    refine thenP_n ?_
    refine SP_cond_t rfl ?_
    refine SP_region ?_
    refine SPL_y (y_move rfl) rfl ?_
    refine SPL_y (y_move rfl) rfl ?_
    rcases st with _ | _
    · refine SPL_gy rfl rfl ?_
      refine SPL_y (y_move rfl) rfl ?_
      refine SPL_gy rfl rfl ?_
      refine SPL_y (y_and rfl rfl (w_and1 (Nat.lt_of_le_of_lt (Nat.div_le_self _ _) hm2))) rfl ?_
      refine SPL_gy rfl rfl ?_
      refine SPL_y (y_eql rfl rfl) rfl ?_
      refine SPL_y (y_pick_f rfl rfl) rfl ?_
      refine SPL_y (y_assign rfl) rfl ?_
      refine SPL_nil ?_
      refine thenP_n ?_
      exact Mid.intro (decide (((m / 2 ^ drpP top % 2 : Nat) : Int) = 1)) (by rw [up_eq (by omega), Bool.false_or]; exact beq_dec _) (by repeat (first | exact Sub.nil _ | refine Sub.cons rfl ?_)) (by repeat (first | exact Part.nil _ | (apply Part.cons; with_reducible (first | exact P0 | exact P1 | exact P2 | exact P3 | exact P4 | exact P5 | exact P6 | exact P7 | exact P8 | exact P9 | exact P10 | exact P11 | exact P12 | exact P13 | exact P14 | exact P15 | exact P16 | exact P17 | exact P18 | exact P19 | exact P20 | exact P21 | exact P22 | exact P23)) | (apply Part.flat; simp only [List.cons_append, List.nil_append]) | (apply Part.cons; (first | exact P0 | exact P1 | exact P2 | exact P3 | exact P4 | exact P5 | exact P6 | exact P7 | exact P8 | exact P9 | exact P10 | exact P11 | exact P12 | exact P13 | exact P14 | exact P15 | exact P16 | exact P17 | exact P18 | exact P19 | exact P20 | exact P21 | exact P22 | exact P23)) | (apply Part.nilc)))
    · refine SPL_gn rfl rfl rfl rfl ?_
      refine SPL_gn rfl rfl rfl rfl ?_
      refine SPL_gn rfl rfl rfl rfl ?_
      refine SPL_y (y_pick_t rfl rfl) rfl ?_
      refine SPL_y (y_assign rfl) rfl ?_
      refine SPL_nil ?_
      refine thenP_n ?_
      exact Mid.intro (true) (by rw [up_eq (by omega)]; rfl) (by repeat (first | exact Sub.nil _ | refine Sub.cons rfl ?_)) (by repeat (first | exact Part.nil _ | (apply Part.cons; with_reducible (first | exact P0 | exact P1 | exact P2 | exact P3 | exact P4 | exact P5 | exact P6 | exact P7 | exact P8 | exact P9 | exact P10 | exact P11 | exact P12 | exact P13 | exact P14 | exact P15 | exact P16 | exact P17 | exact P18 | exact P19 | exact P20 | exact P21 | exact P22 | exact P23)) | (apply Part.flat; simp only [List.cons_append, List.nil_append]) | (apply Part.cons; (first | exact P0 | exact P1 | exact P2 | exact P3 | exact P4 | exact P5 | exact P6 | exact P7 | exact P8 | exact P9 | exact P10 | exact P11 | exact P12 | exact P13 | exact P14 | exact P15 | exact P16 | exact P17 | exact P18 | exact P19 | exact P20 | exact P21 | exact P22 | exact P23)) | (apply Part.nilc)))
  rintro up hup
  rcases up with _ | _
  · refine SP_mid (G := Unit) (fun _ => [(0, .int .u64 ((sgB s : Nat) : Int)), (9, I top), (11, .int .u64 ((rnS m (drpP top) st : Nat) : Int))]) (fun _ => []) (fun _ => True) ?_ ?_
    · refine SP_seq ?_
      refine SP_region ?_
      refine SPL_y (y_move rfl) rfl ?_
      refine SPL_nil ?_
      refine thenP_n ?_
      refine SP_cond_f rfl ?_
      refine SP_skip ?_
      refine thenP_n ?_
      rw [show m / 2 ^ drpP top = rnS m (drpP top) st by unfold rnS; rw [← hup, if_neg (by decide)]]
      exact Mid.intro (()) (trivial) (by repeat (first | exact Sub.nil _ | refine Sub.cons rfl ?_)) (by repeat (first | exact Part.nil _ | (apply Part.cons; with_reducible (first | exact P0 | exact P1 | exact P2 | exact P3 | exact P4 | exact P5 | exact P6 | exact P7 | exact P8 | exact P9 | exact P10 | exact P11 | exact P12 | exact P13 | exact P14 | exact P15 | exact P16 | exact P17 | exact P18 | exact P19 | exact P20 | exact P21 | exact P22 | exact P23)) | (apply Part.flat; simp only [List.cons_append, List.nil_append]) | (apply Part.cons; (first | exact P0 | exact P1 | exact P2 | exact P3 | exact P4 | exact P5 | exact P6 | exact P7 | exact P8 | exact P9 | exact P10 | exact P11 | exact P12 | exact P13 | exact P14 | exact P15 | exact P16 | exact P17 | exact P18 | exact P19 | exact P20 | exact P21 | exact P22 | exact P23)) | (apply Part.nilc)))
    rintro _ _
    have hrl := rnS_lt hm2 hd11 st
    refine SP_seq ?_
    refine SP_region ?_
    refine SPL_y (y_assign rfl) rfl ?_
    refine SPL_nil ?_
    refine thenP_n ?_
    refine SP_mid (G := Unit) (fun _ => [(0, .int .u64 ((sgB s : Nat) : Int)), (15, .int .u64 ((rP top m st : Nat) : Int))]) (fun _ => []) (fun _ => True) ?_ ?_
    · refine SP_seq ?_
      refine SP_region ?_
      refine SPL_y (y_move rfl) rfl ?_
      refine SPL_if (y_lss rfl rfl) rfl ?_ ?_
      · intro h28_1
        refine SPL_nil ?_
        refine thenP_n ?_
        refine SP_cond_t rfl ?_
        refine SP_region ?_
        refine SPL_y (y_move rfl) rfl ?_
        refine SPL_y (y_assign rfl) rfl ?_
        refine SPL_nil ?_
        refine thenP_n ?_
        rw [show rnS m (drpP top) st = rP top m st by unfold rP; rw [if_pos h28_1]]
        exact Mid.intro (()) (trivial) (by repeat (first | exact Sub.nil _ | refine Sub.cons rfl ?_)) (by repeat (first | exact Part.nil _ | (apply Part.cons; with_reducible (first | exact P0 | exact P1 | exact P2 | exact P3 | exact P4 | exact P5 | exact P6 | exact P7 | exact P8 | exact P9 | exact P10 | exact P11 | exact P12 | exact P13 | exact P14 | exact P15 | exact P16 | exact P17 | exact P18 | exact P19 | exact P20 | exact P21 | exact P22 | exact P23)) | (apply Part.flat; simp only [List.cons_append, List.nil_append]) | (apply Part.cons; (first | exact P0 | exact P1 | exact P2 | exact P3 | exact P4 | exact P5 | exact P6 | exact P7 | exact P8 | exact P9 | exact P10 | exact P11 | exact P12 | exact P13 | exact P14 | exact P15 | exact P16 | exact P17 | exact P18 | exact P19 | exact P20 | exact P21 | exact P22 | exact P23)) | (apply Part.nilc)))
      intro h28_1
      refine SPL_nil ?_
      refine thenP_n ?_
      refine SP_cond_f rfl ?_
      refine SP_region ?_
      refine SPL_y (y_move rfl) rfl ?_
      refine SPL_y (y_add rfl rfl (by omega)) rfl ?_
      refine SPL_y (y_conv Tryz.underlying3 Tryz.underlying40 rfl (show IntKind.u64.wrap (top + 1022) = (((top + 1022).toNat : Nat) : Int) by rw [show top + 1022 = (((top + 1022).toNat : Nat) : Int) by omega]; exact u64n (by omega))) rfl ?_
      refine SPL_y (y_shl rfl rfl (by decide) (show _ = (((top + 1022).toNat * 4503599627370496 : Nat) : Int) from by have := w_shl (x := (top + 1022).toNat) (k := 52) (by decide); rw [Nat.mod_eq_of_lt (by omega)] at this; exact this)) rfl ?_
      refine SPL_y (y_move rfl) rfl ?_
      refine SPL_y (y_addw rfl rfl (show _ = (((top + 1022).toNat * 4503599627370496 + rnS m (drpP top) st : Nat) : Int) from by rw [← Int.natCast_add]; exact u64n (by omega))) rfl ?_
      refine SPL_y (y_assign rfl) rfl ?_
      refine SPL_nil ?_
      refine thenP_n ?_
      rw [show (top + 1022).toNat * 4503599627370496 + rnS m (drpP top) st = rP top m st by unfold rP; rw [if_neg h28_1]]
      exact Mid.intro (()) (trivial) (by repeat (first | exact Sub.nil _ | refine Sub.cons rfl ?_)) (by repeat (first | exact Part.nil _ | (apply Part.cons; with_reducible (first | exact P0 | exact P1 | exact P2 | exact P3 | exact P4 | exact P5 | exact P6 | exact P7 | exact P8 | exact P9 | exact P10 | exact P11 | exact P12 | exact P13 | exact P14 | exact P15 | exact P16 | exact P17 | exact P18 | exact P19 | exact P20 | exact P21 | exact P22 | exact P23)) | (apply Part.flat; simp only [List.cons_append, List.nil_append]) | (apply Part.cons; (first | exact P0 | exact P1 | exact P2 | exact P3 | exact P4 | exact P5 | exact P6 | exact P7 | exact P8 | exact P9 | exact P10 | exact P11 | exact P12 | exact P13 | exact P14 | exact P15 | exact P16 | exact P17 | exact P18 | exact P19 | exact P20 | exact P21 | exact P22 | exact P23)) | (apply Part.nilc)))
    rintro _ _
    refine SP_seq ?_
    refine SP_seq ?_
    refine SP_region ?_
    refine SPL_y (y_move rfl) rfl ?_
    refine SPL_if (y_geq rfl rfl) rfl ?_ ?_
    · intro h31_1
      refine SPL_nil ?_
      refine thenP_n ?_
      refine SP_cond_t rfl ?_
      refine SP_seq ?_
      refine SP_region ?_
      refine SPL_y (y_move rfl) rfl ?_
      refine SPL_y (y_or rfl rfl (w_orI s)) rfl ?_
      refine SPL_y (y_assign rfl) rfl ?_
      refine SPL_nil ?_
      refine thenP_n ?_
      refine SP_ret ?_
      refine thenP_ret (bodyP_ret (H' := []) (Res1 rfl rfl) (by repeat (first | exact Part.nil _ | (apply Part.cons; with_reducible (first | exact P0 | exact P1 | exact P2 | exact P3 | exact P4 | exact P5 | exact P6 | exact P7 | exact P8 | exact P9 | exact P10 | exact P11 | exact P12 | exact P13 | exact P14 | exact P15 | exact P16 | exact P17 | exact P18 | exact P19 | exact P20 | exact P21 | exact P22 | exact P23)) | (apply Part.flat; simp only [List.cons_append, List.nil_append]) | (apply Part.cons; (first | exact P0 | exact P1 | exact P2 | exact P3 | exact P4 | exact P5 | exact P6 | exact P7 | exact P8 | exact P9 | exact P10 | exact P11 | exact P12 | exact P13 | exact P14 | exact P15 | exact P16 | exact P17 | exact P18 | exact P19 | exact P20 | exact P21 | exact P22 | exact P23)) | (apply Part.nilc))) ?_)
      refine ⟨?_, rfl⟩
      rw [pack_d h0 (by omega) (by rw [← htop]; omega), ← htop, ← hmm, if_pos (by unfold infB; omega)]
    intro h31_1
    refine SPL_nil ?_
    refine thenP_n ?_
    refine SP_cond_f rfl ?_
    refine SP_skip ?_
    refine thenP_n ?_
    refine SP_seq ?_
    refine SP_region ?_
    refine SPL_y (y_move rfl) rfl ?_
    refine SPL_y (y_move rfl) rfl ?_
    refine SPL_y (y_or rfl rfl (w_orS s (by omega))) rfl ?_
    refine SPL_y (y_assign rfl) rfl ?_
    refine SPL_nil ?_
    refine thenP_n ?_
    refine SP_ret ?_
    refine bodyP_ret (H' := []) (Res1 rfl rfl) (by repeat (first | exact Part.nil _ | (apply Part.cons; with_reducible (first | exact P0 | exact P1 | exact P2 | exact P3 | exact P4 | exact P5 | exact P6 | exact P7 | exact P8 | exact P9 | exact P10 | exact P11 | exact P12 | exact P13 | exact P14 | exact P15 | exact P16 | exact P17 | exact P18 | exact P19 | exact P20 | exact P21 | exact P22 | exact P23)) | (apply Part.flat; simp only [List.cons_append, List.nil_append]) | (apply Part.cons; (first | exact P0 | exact P1 | exact P2 | exact P3 | exact P4 | exact P5 | exact P6 | exact P7 | exact P8 | exact P9 | exact P10 | exact P11 | exact P12 | exact P13 | exact P14 | exact P15 | exact P16 | exact P17 | exact P18 | exact P19 | exact P20 | exact P21 | exact P22 | exact P23)) | (apply Part.nilc))) ?_
    refine ⟨?_, rfl⟩
    rw [pack_d h0 (by omega) (by rw [← htop]; omega), ← htop, ← hmm, if_neg (by unfold infB; omega)]
  · refine SP_mid (G := Unit) (fun _ => [(0, .int .u64 ((sgB s : Nat) : Int)), (9, I top), (11, .int .u64 ((rnS m (drpP top) st : Nat) : Int))]) (fun _ => []) (fun _ => True) ?_ ?_
    · refine SP_seq ?_
      refine SP_region ?_
      refine SPL_y (y_move rfl) rfl ?_
      refine SPL_nil ?_
      refine thenP_n ?_
      refine SP_cond_t rfl ?_
      refine SP_region ?_
      refine SPL_y (y_move rfl) rfl ?_
      refine SPL_y (y_addw rfl rfl (show _ = ((m / 2 ^ drpP top + 1 : Nat) : Int) from by rw [show ((m / 2 ^ drpP top : Nat) : Int) + 1 = ((m / 2 ^ drpP top + 1 : Nat) : Int) by omega]; exact u64n (by have := Nat.div_le_self m (2 ^ drpP top); have : 2 ^ drpP top ≥ 2 ^ 11 := Nat.pow_le_pow_right (by decide) hd11; have : m / 2 ^ drpP top ≤ m / 2 ^ 11 := Nat.div_le_div_left this (by decide); omega))) rfl ?_
      refine SPL_y (y_assign rfl) rfl ?_
      refine SPL_nil ?_
      refine thenP_n ?_
      rw [show m / 2 ^ drpP top + 1 = rnS m (drpP top) st by unfold rnS; rw [← hup, if_pos rfl]]
      exact Mid.intro (()) (trivial) (by repeat (first | exact Sub.nil _ | refine Sub.cons rfl ?_)) (by repeat (first | exact Part.nil _ | (apply Part.cons; with_reducible (first | exact P0 | exact P1 | exact P2 | exact P3 | exact P4 | exact P5 | exact P6 | exact P7 | exact P8 | exact P9 | exact P10 | exact P11 | exact P12 | exact P13 | exact P14 | exact P15 | exact P16 | exact P17 | exact P18 | exact P19 | exact P20 | exact P21 | exact P22 | exact P23)) | (apply Part.flat; simp only [List.cons_append, List.nil_append]) | (apply Part.cons; (first | exact P0 | exact P1 | exact P2 | exact P3 | exact P4 | exact P5 | exact P6 | exact P7 | exact P8 | exact P9 | exact P10 | exact P11 | exact P12 | exact P13 | exact P14 | exact P15 | exact P16 | exact P17 | exact P18 | exact P19 | exact P20 | exact P21 | exact P22 | exact P23)) | (apply Part.nilc)))
    rintro _ _
    have hrl := rnS_lt hm2 hd11 st
    refine SP_seq ?_
    refine SP_region ?_
    refine SPL_y (y_assign rfl) rfl ?_
    refine SPL_nil ?_
    refine thenP_n ?_
    refine SP_mid (G := Unit) (fun _ => [(0, .int .u64 ((sgB s : Nat) : Int)), (15, .int .u64 ((rP top m st : Nat) : Int))]) (fun _ => []) (fun _ => True) ?_ ?_
    · refine SP_seq ?_
      refine SP_region ?_
      refine SPL_y (y_move rfl) rfl ?_
      refine SPL_if (y_lss rfl rfl) rfl ?_ ?_
      · intro h28_1
        refine SPL_nil ?_
        refine thenP_n ?_
        refine SP_cond_t rfl ?_
        refine SP_region ?_
        refine SPL_y (y_move rfl) rfl ?_
        refine SPL_y (y_assign rfl) rfl ?_
        refine SPL_nil ?_
        refine thenP_n ?_
        rw [show rnS m (drpP top) st = rP top m st by unfold rP; rw [if_pos h28_1]]
        exact Mid.intro (()) (trivial) (by repeat (first | exact Sub.nil _ | refine Sub.cons rfl ?_)) (by repeat (first | exact Part.nil _ | (apply Part.cons; with_reducible (first | exact P0 | exact P1 | exact P2 | exact P3 | exact P4 | exact P5 | exact P6 | exact P7 | exact P8 | exact P9 | exact P10 | exact P11 | exact P12 | exact P13 | exact P14 | exact P15 | exact P16 | exact P17 | exact P18 | exact P19 | exact P20 | exact P21 | exact P22 | exact P23)) | (apply Part.flat; simp only [List.cons_append, List.nil_append]) | (apply Part.cons; (first | exact P0 | exact P1 | exact P2 | exact P3 | exact P4 | exact P5 | exact P6 | exact P7 | exact P8 | exact P9 | exact P10 | exact P11 | exact P12 | exact P13 | exact P14 | exact P15 | exact P16 | exact P17 | exact P18 | exact P19 | exact P20 | exact P21 | exact P22 | exact P23)) | (apply Part.nilc)))
      intro h28_1
      refine SPL_nil ?_
      refine thenP_n ?_
      refine SP_cond_f rfl ?_
      refine SP_region ?_
      refine SPL_y (y_move rfl) rfl ?_
      refine SPL_y (y_add rfl rfl (by omega)) rfl ?_
      refine SPL_y (y_conv Tryz.underlying3 Tryz.underlying40 rfl (show IntKind.u64.wrap (top + 1022) = (((top + 1022).toNat : Nat) : Int) by rw [show top + 1022 = (((top + 1022).toNat : Nat) : Int) by omega]; exact u64n (by omega))) rfl ?_
      refine SPL_y (y_shl rfl rfl (by decide) (show _ = (((top + 1022).toNat * 4503599627370496 : Nat) : Int) from by have := w_shl (x := (top + 1022).toNat) (k := 52) (by decide); rw [Nat.mod_eq_of_lt (by omega)] at this; exact this)) rfl ?_
      refine SPL_y (y_move rfl) rfl ?_
      refine SPL_y (y_addw rfl rfl (show _ = (((top + 1022).toNat * 4503599627370496 + rnS m (drpP top) st : Nat) : Int) from by rw [← Int.natCast_add]; exact u64n (by omega))) rfl ?_
      refine SPL_y (y_assign rfl) rfl ?_
      refine SPL_nil ?_
      refine thenP_n ?_
      rw [show (top + 1022).toNat * 4503599627370496 + rnS m (drpP top) st = rP top m st by unfold rP; rw [if_neg h28_1]]
      exact Mid.intro (()) (trivial) (by repeat (first | exact Sub.nil _ | refine Sub.cons rfl ?_)) (by repeat (first | exact Part.nil _ | (apply Part.cons; with_reducible (first | exact P0 | exact P1 | exact P2 | exact P3 | exact P4 | exact P5 | exact P6 | exact P7 | exact P8 | exact P9 | exact P10 | exact P11 | exact P12 | exact P13 | exact P14 | exact P15 | exact P16 | exact P17 | exact P18 | exact P19 | exact P20 | exact P21 | exact P22 | exact P23)) | (apply Part.flat; simp only [List.cons_append, List.nil_append]) | (apply Part.cons; (first | exact P0 | exact P1 | exact P2 | exact P3 | exact P4 | exact P5 | exact P6 | exact P7 | exact P8 | exact P9 | exact P10 | exact P11 | exact P12 | exact P13 | exact P14 | exact P15 | exact P16 | exact P17 | exact P18 | exact P19 | exact P20 | exact P21 | exact P22 | exact P23)) | (apply Part.nilc)))
    rintro _ _
    refine SP_seq ?_
    refine SP_seq ?_
    refine SP_region ?_
    refine SPL_y (y_move rfl) rfl ?_
    refine SPL_if (y_geq rfl rfl) rfl ?_ ?_
    · intro h31_1
      refine SPL_nil ?_
      refine thenP_n ?_
      refine SP_cond_t rfl ?_
      refine SP_seq ?_
      refine SP_region ?_
      refine SPL_y (y_move rfl) rfl ?_
      refine SPL_y (y_or rfl rfl (w_orI s)) rfl ?_
      refine SPL_y (y_assign rfl) rfl ?_
      refine SPL_nil ?_
      refine thenP_n ?_
      refine SP_ret ?_
      refine thenP_ret (bodyP_ret (H' := []) (Res1 rfl rfl) (by repeat (first | exact Part.nil _ | (apply Part.cons; with_reducible (first | exact P0 | exact P1 | exact P2 | exact P3 | exact P4 | exact P5 | exact P6 | exact P7 | exact P8 | exact P9 | exact P10 | exact P11 | exact P12 | exact P13 | exact P14 | exact P15 | exact P16 | exact P17 | exact P18 | exact P19 | exact P20 | exact P21 | exact P22 | exact P23)) | (apply Part.flat; simp only [List.cons_append, List.nil_append]) | (apply Part.cons; (first | exact P0 | exact P1 | exact P2 | exact P3 | exact P4 | exact P5 | exact P6 | exact P7 | exact P8 | exact P9 | exact P10 | exact P11 | exact P12 | exact P13 | exact P14 | exact P15 | exact P16 | exact P17 | exact P18 | exact P19 | exact P20 | exact P21 | exact P22 | exact P23)) | (apply Part.nilc))) ?_)
      refine ⟨?_, rfl⟩
      rw [pack_d h0 (by omega) (by rw [← htop]; omega), ← htop, ← hmm, if_pos (by unfold infB; omega)]
    intro h31_1
    refine SPL_nil ?_
    refine thenP_n ?_
    refine SP_cond_f rfl ?_
    refine SP_skip ?_
    refine thenP_n ?_
    refine SP_seq ?_
    refine SP_region ?_
    refine SPL_y (y_move rfl) rfl ?_
    refine SPL_y (y_move rfl) rfl ?_
    refine SPL_y (y_or rfl rfl (w_orS s (by omega))) rfl ?_
    refine SPL_y (y_assign rfl) rfl ?_
    refine SPL_nil ?_
    refine thenP_n ?_
    refine SP_ret ?_
    refine bodyP_ret (H' := []) (Res1 rfl rfl) (by repeat (first | exact Part.nil _ | (apply Part.cons; with_reducible (first | exact P0 | exact P1 | exact P2 | exact P3 | exact P4 | exact P5 | exact P6 | exact P7 | exact P8 | exact P9 | exact P10 | exact P11 | exact P12 | exact P13 | exact P14 | exact P15 | exact P16 | exact P17 | exact P18 | exact P19 | exact P20 | exact P21 | exact P22 | exact P23)) | (apply Part.flat; simp only [List.cons_append, List.nil_append]) | (apply Part.cons; (first | exact P0 | exact P1 | exact P2 | exact P3 | exact P4 | exact P5 | exact P6 | exact P7 | exact P8 | exact P9 | exact P10 | exact P11 | exact P12 | exact P13 | exact P14 | exact P15 | exact P16 | exact P17 | exact P18 | exact P19 | exact P20 | exact P21 | exact P22 | exact P23)) | (apply Part.nilc))) ?_
    refine ⟨?_, rfl⟩
    rw [pack_d h0 (by omega) (by rw [← htop]; omega), ← htop, ← hmm, if_neg (by unfold infB; omega)]

theorem neg_u {i : Int} (h1 : -9223372036854775808 ≤ i) (h2 : i ≤ 9223372036854775807) (h : i < 0) : IntKind.u64.wrap (IntKind.i64.wrap (0 - i)) = ((i.natAbs : Nat) : Int) := by
  by_cases c : i = -9223372036854775808
  · subst c; decide
  · rw [show IntKind.i64.wrap (0 - i) = ((i.natAbs : Nat) : Int) by rw [IntKind.wrap_i64]; omega]
    exact u64n (by omega)
theorem nm_FromInt (nv : Value) (i : Int) (h1 : -9223372036854775808 ≤ i) (h2 : i ≤ 9223372036854775807) : Spec Tryz.prog 110 [nv, I i] [] (Ret fun v H => v = .int .u64 ((FloatKind.f64.nearest i : Nat) : Int) ∧ H = []) := by
  refine Spec_enter Tryz.func110 rfl Tryz.ntmps110 rfl ?_
  show SP _ _ _ _ _ [(0, _), (1, _)] _
  refine SP_seq ?_
  refine SP_region ?_
  refine SPL_y (y_assign rfl) rfl ?_
  refine SPL_nil ?_
  refine thenP_n ?_
  refine SP_seq ?_
  refine SP_seq ?_
  refine SP_region ?_
  refine SPL_y (y_move rfl) rfl ?_
  refine SPL_if (y_lss rfl rfl) rfl ?_ ?_
  · intro h1_1
    refine SPL_nil ?_
    refine thenP_n ?_
    refine SP_cond_t rfl ?_
    refine SP_seq ?_
    refine SP_region ?_
    refine SPL_y (y_move rfl) rfl ?_
    refine SPL_y (y_neg rfl rfl) rfl ?_
    refine SPL_y (y_conv Tryz.underlying3 Tryz.underlying40 rfl (show IntKind.u64.wrap (IntKind.i64.wrap (0 - i)) = ((i.natAbs : Nat) : Int) from neg_u h1 h2 h1_1)) rfl ?_
    refine SPL_one rfl (SP1_call (nm_pack true i.natAbs 0 false (by omega) (by omega)) Tryz.call171 rfl rfl (by repeat (first | exact Part.nil _ | (apply Part.cons; with_reducible (first | exact P0 | exact P1 | exact P2 | exact P3 | exact P4 | exact P5 | exact P6 | exact P7 | exact P8 | exact P9 | exact P10 | exact P11 | exact P12 | exact P13 | exact P14 | exact P15 | exact P16 | exact P17 | exact P18 | exact P19 | exact P20 | exact P21 | exact P22 | exact P23)) | (apply Part.flat; simp only [List.cons_append, List.nil_append]) | (apply Part.cons; (first | exact P0 | exact P1 | exact P2 | exact P3 | exact P4 | exact P5 | exact P6 | exact P7 | exact P8 | exact P9 | exact P10 | exact P11 | exact P12 | exact P13 | exact P14 | exact P15 | exact P16 | exact P17 | exact P18 | exact P19 | exact P20 | exact P21 | exact P22 | exact P23)) | (apply Part.nilc))) ?_)
    rintro v post H' ⟨rfl, rfl⟩ hH
    try simp only [List.cons_append, List.nil_append] at hH
    subst hH
    refine SPL_y (y_assign rfl) rfl ?_
    refine SPL_nil ?_
    refine thenP_n ?_
    refine SP_ret ?_
    refine thenP_ret (bodyP_ret (H' := []) (Res1 rfl rfl) (by repeat (first | exact Part.nil _ | (apply Part.cons; with_reducible (first | exact P0 | exact P1 | exact P2 | exact P3 | exact P4 | exact P5 | exact P6 | exact P7 | exact P8 | exact P9 | exact P10 | exact P11 | exact P12 | exact P13 | exact P14 | exact P15 | exact P16 | exact P17 | exact P18 | exact P19 | exact P20 | exact P21 | exact P22 | exact P23)) | (apply Part.flat; simp only [List.cons_append, List.nil_append]) | (apply Part.cons; (first | exact P0 | exact P1 | exact P2 | exact P3 | exact P4 | exact P5 | exact P6 | exact P7 | exact P8 | exact P9 | exact P10 | exact P11 | exact P12 | exact P13 | exact P14 | exact P15 | exact P16 | exact P17 | exact P18 | exact P19 | exact P20 | exact P21 | exact P22 | exact P23)) | (apply Part.nilc))) ?_)
    refine ⟨?_, rfl⟩
    rw [fromInt_ok i h1 h2, decide_eq_true (by omega)]
  intro h1_1
  refine SPL_nil ?_
  refine thenP_n ?_
  refine SP_cond_f rfl ?_
  refine SP_skip ?_
  refine thenP_n ?_
  refine SP_seq ?_
  refine SP_region ?_
  refine SPL_y (y_move rfl) rfl ?_
  refine SPL_y (y_conv Tryz.underlying3 Tryz.underlying40 rfl (show IntKind.u64.wrap i = ((i.natAbs : Nat) : Int) by rw [show i = ((i.natAbs : Nat) : Int) by omega]; exact u64n (by omega))) rfl ?_
  refine SPL_one rfl (SP1_call (nm_pack false i.natAbs 0 false (by omega) (by omega)) Tryz.call171 rfl rfl (by repeat (first | exact Part.nil _ | (apply Part.cons; with_reducible (first | exact P0 | exact P1 | exact P2 | exact P3 | exact P4 | exact P5 | exact P6 | exact P7 | exact P8 | exact P9 | exact P10 | exact P11 | exact P12 | exact P13 | exact P14 | exact P15 | exact P16 | exact P17 | exact P18 | exact P19 | exact P20 | exact P21 | exact P22 | exact P23)) | (apply Part.flat; simp only [List.cons_append, List.nil_append]) | (apply Part.cons; (first | exact P0 | exact P1 | exact P2 | exact P3 | exact P4 | exact P5 | exact P6 | exact P7 | exact P8 | exact P9 | exact P10 | exact P11 | exact P12 | exact P13 | exact P14 | exact P15 | exact P16 | exact P17 | exact P18 | exact P19 | exact P20 | exact P21 | exact P22 | exact P23)) | (apply Part.nilc))) ?_)
  rintro v post H' ⟨rfl, rfl⟩ hH
  try simp only [List.cons_append, List.nil_append] at hH
  subst hH
  refine SPL_y (y_assign rfl) rfl ?_
  refine SPL_nil ?_
  refine thenP_n ?_
  refine SP_ret ?_
  refine bodyP_ret (H' := []) (Res1 rfl rfl) (by repeat (first | exact Part.nil _ | (apply Part.cons; with_reducible (first | exact P0 | exact P1 | exact P2 | exact P3 | exact P4 | exact P5 | exact P6 | exact P7 | exact P8 | exact P9 | exact P10 | exact P11 | exact P12 | exact P13 | exact P14 | exact P15 | exact P16 | exact P17 | exact P18 | exact P19 | exact P20 | exact P21 | exact P22 | exact P23)) | (apply Part.flat; simp only [List.cons_append, List.nil_append]) | (apply Part.cons; (first | exact P0 | exact P1 | exact P2 | exact P3 | exact P4 | exact P5 | exact P6 | exact P7 | exact P8 | exact P9 | exact P10 | exact P11 | exact P12 | exact P13 | exact P14 | exact P15 | exact P16 | exact P17 | exact P18 | exact P19 | exact P20 | exact P21 | exact P22 | exact P23)) | (apply Part.nilc))) ?_
  refine ⟨?_, rfl⟩
  rw [fromInt_ok i h1 h2, decide_eq_false (by omega)]

end Go.Sl
