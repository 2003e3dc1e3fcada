/- Walks: package numm, mul, div, floor, Arith (made by program out of short notes) -/
import Derived.Test.Qxb6500573aGreatDoorWNmC
namespace Go.Sl
open Go Go.Wl Go.Proofs
open Go.Nm
set_option maxRecDepth 100000
set_option linter.unusedVariables false
set_option linter.unusedSimpArgs false
theorem w_sx {a b : Nat} (ha : a < 18446744073709551616) (hb : b < 18446744073709551616) : bitI .and .u64 (bitI .xor .u64 (a : Int) (b : Int)) 9223372036854775808 = ((sgB (sgW a ^^ sgW b) : Nat) : Int) := by
  rw [w_xor ha hb, w_sg (Nat.xor_lt_two_pow (n := 64) ha hb)]
  congr 2
  have key : ∀ x, x < 18446744073709551616 → sgW x = x.testBit 63 := by
    intro x hx
    unfold sgW
    rw [Nat.testBit_eq_decide_div_mod_eq, show (2 : Nat) ^ 63 = 9223372036854775808 by decide]
    by_cases c : x / 9223372036854775808 % 2 = 1
    · rw [c]; rfl
    · rw [decide_eq_false c]; exact beq_false_of_ne c
  rw [key _ (Nat.xor_lt_two_pow (n := 64) ha hb), key a ha, key b hb, Nat.testBit_xor]
theorem w_lo32 {x : Nat} (h : x < 18446744073709551616) : bitI .and .u64 (x : Int) 4294967295 = ((x % 4294967296 : Nat) : Int) := by
  have := w_and h (y := 4294967295) (by decide)
  rw [show ((4294967295 : Nat) : Int) = 4294967295 from rfl] at this
  rw [this, show (4294967295 : Nat) = 2 ^ 32 - 1 by decide, and_mod]
theorem shr32 (x : Nat) : ((x : Int)).fdiv (2 ^ (min (32 : Int).toNat IntKind.u64.bits)) = ((x / 4294967296 : Nat) : Int) := w_shr (k := 32) (by decide)
theorem u64mul {a b : Nat} (h : a * b < 18446744073709551616) : IntKind.u64.wrap ((a : Int) * (b : Int)) = ((a * b : Nat) : Int) := by
  rw [← Int.natCast_mul]; exact u64n h
theorem mul_lt2 {a b x y : Nat} (ha : a < x) (hb : b < y) : a * b ≤ (x - 1) * (y - 1) := Nat.mul_le_mul (by omega) (by omega)
/-- A product by halves. -/
def miD (a0 a1 b0 : Nat) : Nat := a1 * b0 + a0 * b0 / 4294967296
def mi2 (a0 a1 b0 b1 : Nat) : Nat := a0 * b1 + miD a0 a1 b0 % 4294967296
def hiP (a0 a1 b0 b1 : Nat) : Nat := a1 * b1 + miD a0 a1 b0 / 4294967296 + mi2 a0 a1 b0 b1 / 4294967296
def loP (a0 a1 b0 b1 : Nat) : Nat := mi2 a0 a1 b0 b1 * 4294967296 % 18446744073709551616 + a0 * b0 % 4294967296
theorem halves {A B : Nat} : hiP (A % 4294967296) (A / 4294967296) (B % 4294967296) (B / 4294967296) * 18446744073709551616 + loP (A % 4294967296) (A / 4294967296) (B % 4294967296) (B / 4294967296) = A * B ∧ loP (A % 4294967296) (A / 4294967296) (B % 4294967296) (B / 4294967296) < 18446744073709551616 := by
  have hA := Nat.div_add_mod A 4294967296
  have hB := Nat.div_add_mod B 4294967296
  have h0 : A % 4294967296 < 4294967296 := Nat.mod_lt _ (by decide)
  have h1 : B % 4294967296 < 4294967296 := Nat.mod_lt _ (by decide)
  generalize A % 4294967296 = a0 at *
  generalize A / 4294967296 = a1 at *
  generalize B % 4294967296 = b0 at *
  generalize B / 4294967296 = b1 at *
  have e : A * B = a1 * b1 * 18446744073709551616 + (a1 * b0 + a0 * b1) * 4294967296 + a0 * b0 := by
    rw [← hA, ← hB, Nat.add_mul, Nat.mul_add, Nat.mul_add, Nat.mul_assoc, Nat.mul_left_comm a1, ← Nat.mul_assoc 4294967296 4294967296, Nat.mul_assoc 4294967296 a1 b0, Nat.mul_left_comm a0]
    generalize a1 * b1 = p11
    generalize a1 * b0 = p10
    generalize a0 * b1 = p01
    generalize a0 * b0 = p00
    omega
  rw [e]
  unfold hiP loP mi2 miD
  generalize a1 * b1 = p11
  generalize a1 * b0 = p10
  generalize a0 * b1 = p01
  generalize a0 * b0 = p00
  omega
theorem or_low {x y : Nat} (hx : x < 18446744073709551616) (hd : x % 4294967296 = 0) (hy : y < 4294967296) : bitI .or .u64 (x : Int) (y : Int) = ((x + y : Nat) : Int) := by
  rw [w_or hx (by omega)]
  have := or_add (a := y) (b := x / 4294967296) (k := 32) (by simpa using hy)
  rw [show 2 ^ 32 * (x / 4294967296) = x by show 4294967296 * (x / 4294967296) = x; omega] at this
  rw [this]
theorem or_top {x y : Nat} (hx : x < 9223372036854775808) (hy : y ≤ 1) : bitI .or .u64 (x : Int) ((y * 9223372036854775808 : Nat) : Int) = ((x + y * 9223372036854775808 : Nat) : Int) := by
  rw [w_or (by omega) (by omega)]
  have := or_add (a := x) (b := y) (k := 63) (by simpa using hx)
  rw [Nat.or_comm, Nat.mul_comm y, show (9223372036854775808 : Nat) = 2 ^ 63 by decide, this, Nat.add_comm]
theorem hi_zero {P k : Nat} (h0 : P ≠ 0) (hk : k ≤ P.log2 - 63) (h : P / 2 ^ (64 + k) = 0) : k = P.log2 - 63 := by
  have h1 : P < 2 ^ (64 + k) := by
    rcases Nat.div_eq_zero_iff.1 h with q | q
    · exact absurd q (Nat.ne_of_gt (Nat.two_pow_pos _))
    · exact q
  have := (Nat.log2_lt h0).2 h1
  omega
theorem hi_more {P k : Nat} (h0 : P ≠ 0) (h : ¬ P / 2 ^ (64 + k) = 0) : k + 1 ≤ P.log2 - 63 := by
  have h1 : 2 ^ (64 + k) ≤ P := by
    refine Decidable.byContradiction fun q => h ?_
    exact Nat.div_eq_of_lt (Nat.lt_of_not_le q)
  have := (Nat.le_log2 h0).2 h1
  omega
theorem mod_bit {P k : Nat} : (P % 2 ^ (k + 1) = 0) ↔ (P % 2 ^ k = 0 ∧ P / 2 ^ k % 2 = 0) := by
  rw [Nat.pow_succ, Nat.mod_mul]
  have hp : 0 < 2 ^ k := Nat.two_pow_pos k
  constructor
  · intro h
    have h1 : P % 2 ^ k = 0 := by omega
    have h2 : 2 ^ k * (P / 2 ^ k % 2) = 0 := by omega
    rcases Nat.mul_eq_zero.1 h2 with q | q
    · omega
    · exact ⟨h1, q⟩
  · rintro ⟨h1, h2⟩; rw [h1, h2]; rfl
def stk (P k : Nat) : Bool := decide (P % 2 ^ k ≠ 0)
theorem stk_t {P k : Nat} (h : P / 2 ^ k % 2 = 1) : true = stk P (k + 1) := (decide_eq_true (show P % 2 ^ (k + 1) ≠ 0 from fun q => by have := (mod_bit.1 q).2; omega)).symm
theorem stk_f {P k : Nat} (h : P / 2 ^ k % 2 ≠ 1) : stk P k = stk P (k + 1) := decide_eq_decide.2 (show P % 2 ^ k ≠ 0 ↔ P % 2 ^ (k + 1) ≠ 0 from ⟨fun q w => q (mod_bit.1 w).1, fun q w => q (mod_bit.2 ⟨w, by omega⟩)⟩)
theorem stk_0 (P : Nat) : false = stk P 0 := by unfold stk; simp [Nat.mod_one]
theorem lo_next {P k : Nat} : P / 2 ^ k % 18446744073709551616 / 2 + P / 2 ^ (64 + k) % 2 * 9223372036854775808 = P / 2 ^ (k + 1) % 18446744073709551616 := by
  rw [show 64 + k = k + 64 by omega, Nat.pow_add 2 k 64, ← Nat.div_div_eq_div_mul, Nat.pow_succ 2 k, ← Nat.div_div_eq_div_mul]
  generalize P / 2 ^ k = z
  show _ + z / 18446744073709551616 % 2 * _ = _
  omega
theorem hi_next {P k : Nat} : P / 2 ^ (64 + k) / 2 = P / 2 ^ (64 + (k + 1)) := by
  rw [Nat.div_div_eq_div_mul, ← Nat.pow_succ]; rfl
theorem shl63 (x : Nat) : IntKind.u64.wrap ((x : Int) * 2 ^ (min (63 : Int).toNat IntKind.u64.bits)) = ((x % 2 * 9223372036854775808 : Nat) : Int) := by
  have := w_shl (x := x) (k := 63) (by decide)
  rw [show x * 2 ^ 63 % 18446744073709551616 = x % 2 * 9223372036854775808 by omega] at this
  exact this

theorem nm_mul (a b : Nat) (ha : a < 18446744073709551616) (hb : b < 18446744073709551616) : Spec Tryz.prog 165 [.int .u64 ((a : Nat) : Int), .int .u64 ((b : Nat) : Int)] [] (Ret fun v H => v = .int .u64 ((mulW a b : Nat) : Int) ∧ H = []) := by
  refine Spec_enter Tryz.func165 rfl Tryz.ntmps165 rfl ?_
  show SP _ _ _ _ _ [(0, _), (1, _)] _
  refine SP_seq ?_
  refine SP_region ?_
  refine SPL_y (y_assign rfl) rfl ?_
  refine SPL_nil ?_
  refine thenP_n ?_
  refine SP_seq ?_
  refine SP_seq ?_
  refine SP_region ?_
  refine SPL_y (y_move rfl) rfl ?_
  refine SPL_y (y_move rfl) rfl ?_
  refine SPL_one rfl (SP1_call (nm_anyNaN a b ha hb) Tryz.call161 rfl rfl (by repeat (first | exact Part.nil _ | (apply Part.cons; with_reducible (first | exact P0 | exact P1 | exact P2 | exact P3 | exact P4 | exact P5 | exact P6 | exact P7 | exact P8 | exact P9 | exact P10 | exact P11 | exact P12 | exact P13 | exact P14 | exact P15 | exact P16 | exact P17 | exact P18 | exact P19 | exact P20 | exact P21 | exact P22 | exact P23)) | (apply Part.flat; simp only [List.cons_append, List.nil_append]) | (apply Part.cons; (first | exact P0 | exact P1 | exact P2 | exact P3 | exact P4 | exact P5 | exact P6 | exact P7 | exact P8 | exact P9 | exact P10 | exact P11 | exact P12 | exact P13 | exact P14 | exact P15 | exact P16 | exact P17 | exact P18 | exact P19 | exact P20 | exact P21 | exact P22 | exact P23)) | (apply Part.nilc))) ?_)
  rintro v post H' ⟨rfl, rfl⟩ hH
  try simp only [List.cons_append, List.nil_append] at hH
  subst hH
  generalize hn : decide (isNaNW a ∨ isNaNW b) = qn
  rcases qn with _ | _
  · refine SPL_nil ?_
    refine thenP_n ?_
    refine SP_cond_f rfl ?_
    refine SP_skip ?_
    refine thenP_n ?_
    refine SP_seq ?_
    refine SP_region ?_
    refine SPL_y (y_move rfl) rfl ?_
    refine SPL_y (y_move rfl) rfl ?_
    refine SPL_y (y_xor rfl rfl rfl) rfl ?_
    refine SPL_y (y_and rfl rfl (w_sx ha hb)) rfl ?_
    refine SPL_y (y_assign rfl) rfl ?_
    refine SPL_nil ?_
    refine thenP_n ?_
    refine SP_seq ?_
    refine SP_seq ?_
    refine SP_region ?_
    refine SPL_y (y_move rfl) rfl ?_
    refine SPL_y (y_move rfl) rfl ?_
    refine SPL_one rfl (SP1_call (nm_anyInf a b ha hb) Tryz.call228 rfl rfl (by repeat (first | exact Part.nil _ | (apply Part.cons; with_reducible (first | exact P0 | exact P1 | exact P2 | exact P3 | exact P4 | exact P5 | exact P6 | exact P7 | exact P8 | exact P9 | exact P10 | exact P11 | exact P12 | exact P13 | exact P14 | exact P15 | exact P16 | exact P17 | exact P18 | exact P19 | exact P20 | exact P21 | exact P22 | exact P23)) | (apply Part.flat; simp only [List.cons_append, List.nil_append]) | (apply Part.cons; (first | exact P0 | exact P1 | exact P2 | exact P3 | exact P4 | exact P5 | exact P6 | exact P7 | exact P8 | exact P9 | exact P10 | exact P11 | exact P12 | exact P13 | exact P14 | exact P15 | exact P16 | exact P17 | exact P18 | exact P19 | exact P20 | exact P21 | exact P22 | exact P23)) | (apply Part.nilc))) ?_)
    rintro v post H' ⟨rfl, rfl⟩ hH
    try simp only [List.cons_append, List.nil_append] at hH
    subst hH
    generalize hi : decide (isInfW a ∨ isInfW b) = qi
    rcases qi with _ | _
    · refine SPL_nil ?_
      refine thenP_n ?_
      refine SP_cond_f rfl ?_
      refine SP_skip ?_
      refine thenP_n ?_
      refine SP_seq ?_
      refine SP_seq ?_
      refine SP_region ?_
      refine SPL_y (y_move rfl) rfl ?_
      refine SPL_y (y_move rfl) rfl ?_
      refine SPL_one rfl (SP1_call (nm_anyZero a b ha hb) Tryz.call229 rfl rfl (by repeat (first | exact Part.nil _ | (apply Part.cons; with_reducible (first | exact P0 | exact P1 | exact P2 | exact P3 | exact P4 | exact P5 | exact P6 | exact P7 | exact P8 | exact P9 | exact P10 | exact P11 | exact P12 | exact P13 | exact P14 | exact P15 | exact P16 | exact P17 | exact P18 | exact P19 | exact P20 | exact P21 | exact P22 | exact P23)) | (apply Part.flat; simp only [List.cons_append, List.nil_append]) | (apply Part.cons; (first | exact P0 | exact P1 | exact P2 | exact P3 | exact P4 | exact P5 | exact P6 | exact P7 | exact P8 | exact P9 | exact P10 | exact P11 | exact P12 | exact P13 | exact P14 | exact P15 | exact P16 | exact P17 | exact P18 | exact P19 | exact P20 | exact P21 | exact P22 | exact P23)) | (apply Part.nilc))) ?_)
      rintro v post H' ⟨rfl, rfl⟩ hH
      try simp only [List.cons_append, List.nil_append] at hH
      subst hH
      generalize hz : decide (isZW a ∨ isZW b) = qz
      rcases qz with _ | _
      · refine SPL_nil ?_
        refine thenP_n ?_
        refine SP_cond_f rfl ?_
        refine SP_skip ?_
        refine thenP_n ?_
        refine SP_seq ?_
        refine SP_region ?_
        refine SPL_y (y_move rfl) rfl ?_
        refine SPL_one rfl (SP1_call (nm_parts a ha) Tryz.call227 rfl rfl (by repeat (first | exact Part.nil _ | (apply Part.cons; with_reducible (first | exact P0 | exact P1 | exact P2 | exact P3 | exact P4 | exact P5 | exact P6 | exact P7 | exact P8 | exact P9 | exact P10 | exact P11 | exact P12 | exact P13 | exact P14 | exact P15 | exact P16 | exact P17 | exact P18 | exact P19 | exact P20 | exact P21 | exact P22 | exact P23)) | (apply Part.flat; simp only [List.cons_append, List.nil_append]) | (apply Part.cons; (first | exact P0 | exact P1 | exact P2 | exact P3 | exact P4 | exact P5 | exact P6 | exact P7 | exact P8 | exact P9 | exact P10 | exact P11 | exact P12 | exact P13 | exact P14 | exact P15 | exact P16 | exact P17 | exact P18 | exact P19 | exact P20 | exact P21 | exact P22 | exact P23)) | (apply Part.nilc))) ?_)
        rintro v post H' ⟨rfl, rfl⟩ hH
        try simp only [List.cons_append, List.nil_append] at hH
        subst hH
        refine SPL_y (y_move rfl) rfl ?_
        refine SPL_y (y_ext rfl rfl) rfl ?_
        refine SPL_y (y_ext rfl rfl) rfl ?_
        refine SPL_y (y_assign rfl) rfl ?_
        refine SPL_y (y_assign rfl) rfl ?_
        refine SPL_nil ?_
        refine thenP_n ?_
        refine SP_seq ?_
        refine SP_region ?_
        refine SPL_y (y_move rfl) rfl ?_
        refine SPL_one rfl (SP1_call (nm_parts b hb) Tryz.call227 rfl rfl (by repeat (first | exact Part.nil _ | (apply Part.cons; with_reducible (first | exact P0 | exact P1 | exact P2 | exact P3 | exact P4 | exact P5 | exact P6 | exact P7 | exact P8 | exact P9 | exact P10 | exact P11 | exact P12 | exact P13 | exact P14 | exact P15 | exact P16 | exact P17 | exact P18 | exact P19 | exact P20 | exact P21 | exact P22 | exact P23)) | (apply Part.flat; simp only [List.cons_append, List.nil_append]) | (apply Part.cons; (first | exact P0 | exact P1 | exact P2 | exact P3 | exact P4 | exact P5 | exact P6 | exact P7 | exact P8 | exact P9 | exact P10 | exact P11 | exact P12 | exact P13 | exact P14 | exact P15 | exact P16 | exact P17 | exact P18 | exact P19 | exact P20 | exact P21 | exact P22 | exact P23)) | (apply Part.nilc))) ?_)
        rintro v post H' ⟨rfl, rfl⟩ hH
        try simp only [List.cons_append, List.nil_append] at hH
        subst hH
        refine SPL_y (y_move rfl) rfl ?_
        refine SPL_y (y_ext rfl rfl) rfl ?_
        refine SPL_y (y_ext rfl rfl) rfl ?_
        refine SPL_y (y_assign rfl) rfl ?_
        refine SPL_y (y_assign rfl) rfl ?_
        refine SPL_nil ?_
        refine thenP_n ?_
        refine SP_seq ?_
        refine SP_region ?_
        have ha53 := pM_lt a
        have hb53 := pM_lt b
        have hpa := pE_ge a
        have hpb := pE_ge b
        have hqa := pE_le a
        have hqb := pE_le b
        refine SPL_y (y_move rfl) rfl ?_
        refine SPL_y (y_and rfl rfl (w_lo32 (by omega))) rfl ?_
        refine SPL_y (y_assign rfl) rfl ?_
        refine SPL_nil ?_
        refine thenP_n ?_
        refine SP_seq ?_
        refine SP_region ?_
        refine SPL_y (y_move rfl) rfl ?_
        refine SPL_y (y_shr rfl rfl (by decide) (shr32 _)) rfl ?_
        refine SPL_y (y_assign rfl) rfl ?_
        refine SPL_nil ?_
        refine thenP_n ?_
        refine SP_seq ?_
        refine SP_region ?_
        refine SPL_y (y_move rfl) rfl ?_
        refine SPL_y (y_and rfl rfl (w_lo32 (by omega))) rfl ?_
        refine SPL_y (y_assign rfl) rfl ?_
        refine SPL_nil ?_
        refine thenP_n ?_
        refine SP_seq ?_
        refine SP_region ?_
        refine SPL_y (y_move rfl) rfl ?_
        refine SPL_y (y_shr rfl rfl (by decide) (shr32 _)) rfl ?_
        refine SPL_y (y_assign rfl) rfl ?_
        refine SPL_nil ?_
        refine thenP_n ?_
        refine SP_seq ?_
        refine SP_region ?_
        obtain ⟨a0, ea0⟩ : ∃ a0, a0 = pM a % 4294967296 := ⟨_, rfl⟩
        obtain ⟨a1, ea1⟩ : ∃ a1, a1 = pM a / 4294967296 := ⟨_, rfl⟩
        obtain ⟨b0, eb0⟩ : ∃ b0, b0 = pM b % 4294967296 := ⟨_, rfl⟩
        obtain ⟨b1, eb1⟩ : ∃ b1, b1 = pM b / 4294967296 := ⟨_, rfl⟩
        have hhv := halves (A := pM a) (B := pM b)
        rw [← ea0, ← ea1, ← eb0, ← eb1] at hhv ⊢
        have p00 := mul_lt2 (a := a0) (b := b0) (x := 4294967296) (y := 4294967296) (by omega) (by omega)
        have p10 := mul_lt2 (a := a1) (b := b0) (x := 2097152) (y := 4294967296) (by omega) (by omega)
        have p01 := mul_lt2 (a := a0) (b := b1) (x := 4294967296) (y := 2097152) (by omega) (by omega)
        have p11 := mul_lt2 (a := a1) (b := b1) (x := 2097152) (y := 2097152) (by omega) (by omega)
        have hmid : miD a0 a1 b0 < 18446744073709551616 := by unfold miD; omega
        have hmid2 : mi2 a0 a1 b0 b1 < 18446744073709551616 := by unfold mi2; omega
        refine SPL_y (y_move rfl) rfl ?_
        refine SPL_y (y_move rfl) rfl ?_
        refine SPL_y (y_mulw rfl rfl (u64mul (by omega))) rfl ?_
        refine SPL_y (y_move rfl) rfl ?_
        refine SPL_y (y_move rfl) rfl ?_
        refine SPL_y (y_mulw rfl rfl (u64mul (by omega))) rfl ?_
        refine SPL_y (y_shr rfl rfl (by decide) (shr32 _)) rfl ?_
        refine SPL_y (y_addw rfl rfl (show _ = ((miD a0 a1 b0 : Nat) : Int) from u64add (by omega))) rfl ?_
        refine SPL_y (y_assign rfl) rfl ?_
        refine SPL_nil ?_
        refine thenP_n ?_
        refine SP_seq ?_
        refine SP_region ?_
        refine SPL_y (y_move rfl) rfl ?_
        refine SPL_y (y_move rfl) rfl ?_
        refine SPL_y (y_mulw rfl rfl (u64mul (by omega))) rfl ?_
        refine SPL_y (y_move rfl) rfl ?_
        refine SPL_y (y_and rfl rfl (w_lo32 (by omega))) rfl ?_
        refine SPL_y (y_addw rfl rfl (show _ = ((mi2 a0 a1 b0 b1 : Nat) : Int) from u64add (by omega))) rfl ?_
        refine SPL_y (y_assign rfl) rfl ?_
        refine SPL_nil ?_
        refine thenP_n ?_
        refine SP_seq ?_
        refine SP_region ?_
        refine SPL_y (y_move rfl) rfl ?_
        refine SPL_y (y_move rfl) rfl ?_
        refine SPL_y (y_mulw rfl rfl (u64mul (by omega))) rfl ?_
        refine SPL_y (y_move rfl) rfl ?_
        refine SPL_y (y_shr rfl rfl (by decide) (shr32 _)) rfl ?_
        refine SPL_y (y_addw rfl rfl (u64add (by omega))) rfl ?_
        refine SPL_y (y_move rfl) rfl ?_
        refine SPL_y (y_shr rfl rfl (by decide) (shr32 _)) rfl ?_
        refine SPL_y (y_addw rfl rfl (show _ = ((hiP a0 a1 b0 b1 : Nat) : Int) from u64add (by omega))) rfl ?_
        refine SPL_y (y_assign rfl) rfl ?_
        refine SPL_nil ?_
        refine thenP_n ?_
        refine SP_seq ?_
        refine SP_region ?_
        refine SPL_y (y_move rfl) rfl ?_
        refine SPL_y (y_shl rfl rfl (by decide) (show _ = ((mi2 a0 a1 b0 b1 * 4294967296 % 18446744073709551616 : Nat) : Int) from w_shl (k := 32) (by decide))) rfl ?_
        refine SPL_y (y_move rfl) rfl ?_
        refine SPL_y (y_move rfl) rfl ?_
        refine SPL_y (y_mulw rfl rfl (u64mul (by omega))) rfl ?_
        refine SPL_y (y_and rfl rfl (w_lo32 (by omega))) rfl ?_
        refine SPL_y (y_or rfl rfl (or_low (Nat.mod_lt _ (by decide)) (by omega) (Nat.mod_lt _ (by decide)))) rfl ?_
        refine SPL_y (y_assign rfl) rfl ?_
        refine SPL_nil ?_
        refine thenP_n ?_
        refine SP_seq ?_
        refine SP_region ?_
        have hh1 : hiP a0 a1 b0 b1 = pM a * pM b / 2 ^ (64 + 0) := by show _ = _ / 18446744073709551616; omega
        have hh2 : loP a0 a1 b0 b1 = pM a * pM b / 2 ^ 0 % 18446744073709551616 := by rw [Nat.pow_zero, Nat.div_one]; omega
        refine SPL_y (y_move rfl) rfl ?_
        refine SPL_y (y_move rfl) rfl ?_
        refine SPL_y (y_add rfl rfl (by omega)) rfl ?_
        refine SPL_y (y_assign rfl) rfl ?_
        refine SPL_nil ?_
        refine thenP_n ?_
        refine SP_seq ?_
        refine SP_region ?_
        refine SPL_y (y_assign rfl) rfl ?_
        refine SPL_nil ?_
        refine thenP_n ?_
        refine SP_seq ?_
        refine SP_block ?_
        refine SP_loop (G := Nat × Nat × Nat × Int × Bool) (fun g => (pM a * pM b).log2 - 63 - g.1) (fun g => [(5, .int .u64 ((sgB (sgW a ^^ sgW b) : Nat) : Int)), (16, .int .u64 ((g.2.1 : Nat) : Int)), (17, .int .u64 ((g.2.2.1 : Nat) : Int)), (18, I g.2.2.2.1), (19, .bool g.2.2.2.2)]) (fun _ => []) (fun g => g.1 ≤ (pM a * pM b).log2 - 63 ∧ g.2.1 = pM a * pM b / 2 ^ (64 + g.1) ∧ g.2.2.1 = pM a * pM b / 2 ^ g.1 % 18446744073709551616 ∧ g.2.2.2.1 = pE a + pE b + g.1 ∧ g.2.2.2.2 = stk (pM a * pM b) g.1) ((0, hiP a0 a1 b0 b1, loP a0 a1 b0 b1, pE a + pE b, false)) (⟨Nat.zero_le _, hh1, hh2, by simp, stk_0 _⟩) (by repeat (first | exact Sub.nil _ | refine Sub.cons rfl ?_)) (by repeat (first | exact Part.nil _ | (apply Part.cons; with_reducible (first | exact P0 | exact P1 | exact P2 | exact P3 | exact P4 | exact P5 | exact P6 | exact P7 | exact P8 | exact P9 | exact P10 | exact P11 | exact P12 | exact P13 | exact P14 | exact P15 | exact P16 | exact P17 | exact P18 | exact P19 | exact P20 | exact P21 | exact P22 | exact P23)) | (apply Part.flat; simp only [List.cons_append, List.nil_append]) | (apply Part.cons; (first | exact P0 | exact P1 | exact P2 | exact P3 | exact P4 | exact P5 | exact P6 | exact P7 | exact P8 | exact P9 | exact P10 | exact P11 | exact P12 | exact P13 | exact P14 | exact P15 | exact P16 | exact P17 | exact P18 | exact P19 | exact P20 | exact P21 | exact P22 | exact P23)) | (apply Part.nilc))) ?_
        clear hhv hmid hmid2 p00 p10 p01 p11 hh1 hh2
        rintro ⟨k, kh, kl, ke, ks⟩ ⟨hk, h1, h2, h3, h4⟩
        dsimp only at hk h1 h2 h3 h4 ⊢
        subst h1 h2 h3
        obtain ⟨ks2, hks⟩ : ∃ z, z = ks := ⟨_, rfl⟩
        rw [← hks] at h4 ⊢
        clear hks
        have hP0 : pM a * pM b ≠ 0 := Nat.ne_of_gt (Nat.mul_pos (pM_pos (fun q => (of_decide_eq_false hz) (Or.inl q)) (fin_of (fun q => (of_decide_eq_false hn) (Or.inl q)) (fun q => (of_decide_eq_false hi) (Or.inl q)))) (pM_pos (fun q => (of_decide_eq_false hz) (Or.inr q)) (fin_of (fun q => (of_decide_eq_false hn) (Or.inr q)) (fun q => (of_decide_eq_false hi) (Or.inr q)))))
        obtain ⟨P, hP⟩ : ∃ P, P = pM a * pM b := ⟨_, rfl⟩
        rw [← hP] at hk hP0 h4 ⊢
        have hPl : P.log2 ≤ 106 := by
          have hl : P < 2 ^ 107 := by
            rw [hP]
            have h2 := mul_lt2 (pM_lt a) (pM_lt b)
            exact Nat.lt_of_le_of_lt h2 (by decide)
          have := (Nat.log2_lt hP0).2 hl
          omega
        refine SP_seq ?_
        refine SP_seq ?_
        refine SP_region ?_
        refine SPL_y (y_move rfl) rfl ?_
        refine SPL_ifn (y_neq rfl rfl) rfl ?_ ?_
        · intro h22_1
          refine SPL_nil ?_
          refine thenP_n ?_
          refine SP_cond_f rfl ?_
          refine SP_exit ?_
          refine thenP_exit ?_
          refine thenP_exit ?_
          refine inBlockP_hit ?_
          refine thenP_n ?_
          refine SP_seq ?_
          have hkk : k = P.log2 - 63 := hi_zero hP0 hk (by omega)
          refine SP_region ?_
          refine SPL_y (y_move rfl) rfl ?_
          refine SPL_y (y_move rfl) rfl ?_
          refine SPL_y (y_move rfl) rfl ?_
          refine SPL_y (y_move rfl) rfl ?_
          have hlo : P / 2 ^ k % 18446744073709551616 = P / 2 ^ (P.log2 - 63) := by
            rw [hkk]
            refine Nat.mod_eq_of_lt ?_
            rw [Nat.div_lt_iff_lt_mul (Nat.two_pow_pos _)]
            refine Nat.lt_of_lt_of_le Nat.lt_log2_self ?_
            show _ ≤ 2 ^ 64 * _
            rw [← Nat.pow_add]
            exact Nat.pow_le_pow_right (by decide) (by omega)
          rw [hlo, hkk]
          refine SPL_one rfl (SP1_call (nm_pack (sgW a ^^ sgW b) (P / 2 ^ (P.log2 - 63)) (pE a + pE b + ((P.log2 - 63 : Nat) : Int)) ks2 (by rw [← hlo, hkk]; exact Nat.mod_lt _ (by decide)) (by have := pE_ge a; have := pE_ge b; have := pE_le a; have := pE_le b; omega)) Tryz.call171 rfl rfl (by repeat (first | exact Part.nil _ | (apply Part.cons; with_reducible (first | exact P0 | exact P1 | exact P2 | exact P3 | exact P4 | exact P5 | exact P6 | exact P7 | exact P8 | exact P9 | exact P10 | exact P11 | exact P12 | exact P13 | exact P14 | exact P15 | exact P16 | exact P17 | exact P18 | exact P19 | exact P20 | exact P21 | exact P22 | exact P23)) | (apply Part.flat; simp only [List.cons_append, List.nil_append]) | (apply Part.cons; (first | exact P0 | exact P1 | exact P2 | exact P3 | exact P4 | exact P5 | exact P6 | exact P7 | exact P8 | exact P9 | exact P10 | exact P11 | exact P12 | exact P13 | exact P14 | exact P15 | exact P16 | exact P17 | exact P18 | exact P19 | exact P20 | exact P21 | exact P22 | exact P23)) | (apply Part.nilc))) ?_)
          rintro v post H' ⟨rfl, rfl⟩ hH
          try simp only [List.cons_append, List.nil_append] at hH
          subst hH
          refine SPL_y (y_assign rfl) rfl ?_
          refine SPL_nil ?_
          refine thenP_n ?_
          refine SP_ret ?_
          refine bodyP_ret (H' := []) (Res1 rfl rfl) (by repeat (first | exact Part.nil _ | (apply Part.cons; with_reducible (first | exact P0 | exact P1 | exact P2 | exact P3 | exact P4 | exact P5 | exact P6 | exact P7 | exact P8 | exact P9 | exact P10 | exact P11 | exact P12 | exact P13 | exact P14 | exact P15 | exact P16 | exact P17 | exact P18 | exact P19 | exact P20 | exact P21 | exact P22 | exact P23)) | (apply Part.flat; simp only [List.cons_append, List.nil_append]) | (apply Part.cons; (first | exact P0 | exact P1 | exact P2 | exact P3 | exact P4 | exact P5 | exact P6 | exact P7 | exact P8 | exact P9 | exact P10 | exact P11 | exact P12 | exact P13 | exact P14 | exact P15 | exact P16 | exact P17 | exact P18 | exact P19 | exact P20 | exact P21 | exact P22 | exact P23)) | (apply Part.nilc))) ?_
          refine ⟨?_, rfl⟩
          unfold mulW
          rw [if_neg (of_decide_eq_false hn), if_neg (of_decide_eq_false hi), if_neg (of_decide_eq_false hz), ← hP, h4, hkk]; rfl
        intro h22_1
        refine SPL_nil ?_
        refine thenP_n ?_
        refine SP_cond_t rfl ?_
        refine SP_skip ?_
        refine thenP_n ?_
        refine SP_block ?_
        refine SP_mid (G := Bool) (fun s => [(5, .int .u64 ((sgB (sgW a ^^ sgW b) : Nat) : Int)), (16, .int .u64 ((P / 2 ^ (64 + k) : Nat) : Int)), (17, .int .u64 ((P / 2 ^ k % 18446744073709551616 : Nat) : Int)), (18, I (pE a + pE b + (k : Int))), (19, .bool s)]) (fun _ => []) (fun s => s = stk P (k + 1)) ?_ ?_
        · refine SP_seq ?_
          refine SP_region ?_
          refine SPL_y (y_move rfl) rfl ?_
          refine SPL_y (y_and rfl rfl (w_and1 (Nat.mod_lt _ (by decide)))) rfl ?_
          refine SPL_ifn (y_eql rfl rfl) rfl ?_ ?_
          · intro h23_2
            refine SPL_nil ?_
            refine thenP_n ?_
            refine SP_cond_f rfl ?_
            refine SP_skip ?_
            refine thenP_n ?_
            exact Mid.intro (ks2) (h4.trans (stk_f (by omega))) (by repeat (first | exact Sub.nil _ | refine Sub.cons rfl ?_)) (by repeat (first | exact Part.nil _ | (apply Part.cons; with_reducible (first | exact P0 | exact P1 | exact P2 | exact P3 | exact P4 | exact P5 | exact P6 | exact P7 | exact P8 | exact P9 | exact P10 | exact P11 | exact P12 | exact P13 | exact P14 | exact P15 | exact P16 | exact P17 | exact P18 | exact P19 | exact P20 | exact P21 | exact P22 | exact P23)) | (apply Part.flat; simp only [List.cons_append, List.nil_append]) | (apply Part.cons; (first | exact P0 | exact P1 | exact P2 | exact P3 | exact P4 | exact P5 | exact P6 | exact P7 | exact P8 | exact P9 | exact P10 | exact P11 | exact P12 | exact P13 | exact P14 | exact P15 | exact P16 | exact P17 | exact P18 | exact P19 | exact P20 | exact P21 | exact P22 | exact P23)) | (apply Part.nilc)))
          intro h23_2
          refine SPL_nil ?_
          refine thenP_n ?_
          refine SP_cond_t rfl ?_
          refine SP_region ?_
          refine SPL_y (y_assign rfl) rfl ?_
          refine SPL_nil ?_
          refine thenP_n ?_
          exact Mid.intro (true) (stk_t (by omega)) (by repeat (first | exact Sub.nil _ | refine Sub.cons rfl ?_)) (by repeat (first | exact Part.nil _ | (apply Part.cons; with_reducible (first | exact P0 | exact P1 | exact P2 | exact P3 | exact P4 | exact P5 | exact P6 | exact P7 | exact P8 | exact P9 | exact P10 | exact P11 | exact P12 | exact P13 | exact P14 | exact P15 | exact P16 | exact P17 | exact P18 | exact P19 | exact P20 | exact P21 | exact P22 | exact P23)) | (apply Part.flat; simp only [List.cons_append, List.nil_append]) | (apply Part.cons; (first | exact P0 | exact P1 | exact P2 | exact P3 | exact P4 | exact P5 | exact P6 | exact P7 | exact P8 | exact P9 | exact P10 | exact P11 | exact P12 | exact P13 | exact P14 | exact P15 | exact P16 | exact P17 | exact P18 | exact P19 | exact P20 | exact P21 | exact P22 | exact P23)) | (apply Part.nilc)))
        rintro st2 hst2
        refine SP_seq ?_
        refine SP_region ?_
        refine SPL_y (y_move rfl) rfl ?_
        refine SPL_y (y_shr rfl rfl (by decide) (show _ = ((P / 2 ^ k % 18446744073709551616 / 2 : Nat) : Int) from w_shr (k := 1) (by decide))) rfl ?_
        refine SPL_y (y_move rfl) rfl ?_
        refine SPL_y (y_shl rfl rfl (by decide) (shl63 _)) rfl ?_
        refine SPL_y (y_or rfl rfl (or_top (by omega) (by omega))) rfl ?_
        refine SPL_y (y_assign rfl) rfl ?_
        refine SPL_nil ?_
        refine thenP_n ?_
        refine SP_seq ?_
        refine SP_region ?_
        refine SPL_y (y_move rfl) rfl ?_
        refine SPL_y (y_shr rfl rfl (by decide) (show _ = ((P / 2 ^ (64 + k) / 2 : Nat) : Int) from w_shr (k := 1) (by decide))) rfl ?_
        refine SPL_y (y_assign rfl) rfl ?_
        refine SPL_nil ?_
        refine thenP_n ?_
        refine SP_region ?_
        refine SPL_y (y_move rfl) rfl ?_
        refine SPL_y (y_add rfl rfl (by omega)) rfl ?_
        refine SPL_y (y_assign rfl) rfl ?_
        refine SPL_nil ?_
        refine inBlockP_n ?_
        refine thenP_n ?_
        have hmo := hi_more hP0 (by omega : ¬ P / 2 ^ (64 + k) = 0)
        exact Again.intro ((k + 1, P / 2 ^ (64 + k) / 2, P / 2 ^ k % 18446744073709551616 / 2 + P / 2 ^ (64 + k) % 2 * 9223372036854775808, pE a + pE b + (k : Int) + 1, st2)) (⟨by dsimp only; omega, by dsimp only; rw [hi_next], by dsimp only; rw [lo_next], by dsimp only; omega, hst2⟩) (by dsimp only; omega) (by repeat (first | exact Sub.nil _ | refine Sub.cons rfl ?_)) (by repeat (first | exact Part.nil _ | (apply Part.cons; with_reducible (first | exact P0 | exact P1 | exact P2 | exact P3 | exact P4 | exact P5 | exact P6 | exact P7 | exact P8 | exact P9 | exact P10 | exact P11 | exact P12 | exact P13 | exact P14 | exact P15 | exact P16 | exact P17 | exact P18 | exact P19 | exact P20 | exact P21 | exact P22 | exact P23)) | (apply Part.flat; simp only [List.cons_append, List.nil_append]) | (apply Part.cons; (first | exact P0 | exact P1 | exact P2 | exact P3 | exact P4 | exact P5 | exact P6 | exact P7 | exact P8 | exact P9 | exact P10 | exact P11 | exact P12 | exact P13 | exact P14 | exact P15 | exact P16 | exact P17 | exact P18 | exact P19 | exact P20 | exact P21 | exact P22 | exact P23)) | (apply Part.nilc)))
      · refine SPL_nil ?_
        refine thenP_n ?_
        refine SP_cond_t rfl ?_
        refine SP_seq ?_
        refine SP_region ?_
        refine SPL_y (y_move rfl) rfl ?_
        refine SPL_y (y_assign rfl) rfl ?_
        refine SPL_nil ?_
        refine thenP_n ?_
        refine SP_ret ?_
        refine thenP_ret (bodyP_ret (H' := []) (Res1 rfl rfl) (by repeat (first | exact Part.nil _ | (apply Part.cons; with_reducible (first | exact P0 | exact P1 | exact P2 | exact P3 | exact P4 | exact P5 | exact P6 | exact P7 | exact P8 | exact P9 | exact P10 | exact P11 | exact P12 | exact P13 | exact P14 | exact P15 | exact P16 | exact P17 | exact P18 | exact P19 | exact P20 | exact P21 | exact P22 | exact P23)) | (apply Part.flat; simp only [List.cons_append, List.nil_append]) | (apply Part.cons; (first | exact P0 | exact P1 | exact P2 | exact P3 | exact P4 | exact P5 | exact P6 | exact P7 | exact P8 | exact P9 | exact P10 | exact P11 | exact P12 | exact P13 | exact P14 | exact P15 | exact P16 | exact P17 | exact P18 | exact P19 | exact P20 | exact P21 | exact P22 | exact P23)) | (apply Part.nilc))) ?_)
        refine ⟨?_, rfl⟩
        unfold mulW
        rw [if_neg (of_decide_eq_false hn), if_neg (of_decide_eq_false hi), if_pos (of_decide_eq_true hz)]
    · refine SPL_nil ?_
      refine thenP_n ?_
      refine SP_cond_t rfl ?_
      refine SP_seq ?_
      refine SP_seq ?_
      refine SP_region ?_
      refine SPL_y (y_move rfl) rfl ?_
      refine SPL_y (y_move rfl) rfl ?_
      refine SPL_one rfl (SP1_call (nm_anyZero a b ha hb) Tryz.call229 rfl rfl (by repeat (first | exact Part.nil _ | (apply Part.cons; with_reducible (first | exact P0 | exact P1 | exact P2 | exact P3 | exact P4 | exact P5 | exact P6 | exact P7 | exact P8 | exact P9 | exact P10 | exact P11 | exact P12 | exact P13 | exact P14 | exact P15 | exact P16 | exact P17 | exact P18 | exact P19 | exact P20 | exact P21 | exact P22 | exact P23)) | (apply Part.flat; simp only [List.cons_append, List.nil_append]) | (apply Part.cons; (first | exact P0 | exact P1 | exact P2 | exact P3 | exact P4 | exact P5 | exact P6 | exact P7 | exact P8 | exact P9 | exact P10 | exact P11 | exact P12 | exact P13 | exact P14 | exact P15 | exact P16 | exact P17 | exact P18 | exact P19 | exact P20 | exact P21 | exact P22 | exact P23)) | (apply Part.nilc))) ?_)
      rintro v post H' ⟨rfl, rfl⟩ hH
      try simp only [List.cons_append, List.nil_append] at hH
      subst hH
      generalize hz : decide (isZW a ∨ isZW b) = qz
      rcases qz with _ | _
      · refine SPL_nil ?_
        refine thenP_n ?_
        refine SP_cond_f rfl ?_
        refine SP_skip ?_
        refine thenP_n ?_
        refine SP_seq ?_
        refine SP_region ?_
        refine SPL_y (y_move rfl) rfl ?_
        refine SPL_y (y_or rfl rfl (w_orI _)) rfl ?_
        refine SPL_y (y_assign rfl) rfl ?_
        refine SPL_nil ?_
        refine thenP_n ?_
        refine SP_ret ?_
        refine thenP_ret (bodyP_ret (H' := []) (Res1 rfl rfl) (by repeat (first | exact Part.nil _ | (apply Part.cons; with_reducible (first | exact P0 | exact P1 | exact P2 | exact P3 | exact P4 | exact P5 | exact P6 | exact P7 | exact P8 | exact P9 | exact P10 | exact P11 | exact P12 | exact P13 | exact P14 | exact P15 | exact P16 | exact P17 | exact P18 | exact P19 | exact P20 | exact P21 | exact P22 | exact P23)) | (apply Part.flat; simp only [List.cons_append, List.nil_append]) | (apply Part.cons; (first | exact P0 | exact P1 | exact P2 | exact P3 | exact P4 | exact P5 | exact P6 | exact P7 | exact P8 | exact P9 | exact P10 | exact P11 | exact P12 | exact P13 | exact P14 | exact P15 | exact P16 | exact P17 | exact P18 | exact P19 | exact P20 | exact P21 | exact P22 | exact P23)) | (apply Part.nilc))) ?_)
        refine ⟨?_, rfl⟩
        unfold mulW
        rw [if_neg (of_decide_eq_false hn), if_pos (of_decide_eq_true hi), if_neg (of_decide_eq_false hz)]
      · refine SPL_nil ?_
        refine thenP_n ?_
        refine SP_cond_t rfl ?_
        refine SP_seq ?_
        refine SP_region ?_
        refine SPL_y (y_assign rfl) rfl ?_
        refine SPL_nil ?_
        refine thenP_n ?_
        refine SP_ret ?_
        refine thenP_ret (thenP_ret (bodyP_ret (H' := []) (Res1 rfl rfl) (by repeat (first | exact Part.nil _ | (apply Part.cons; with_reducible (first | exact P0 | exact P1 | exact P2 | exact P3 | exact P4 | exact P5 | exact P6 | exact P7 | exact P8 | exact P9 | exact P10 | exact P11 | exact P12 | exact P13 | exact P14 | exact P15 | exact P16 | exact P17 | exact P18 | exact P19 | exact P20 | exact P21 | exact P22 | exact P23)) | (apply Part.flat; simp only [List.cons_append, List.nil_append]) | (apply Part.cons; (first | exact P0 | exact P1 | exact P2 | exact P3 | exact P4 | exact P5 | exact P6 | exact P7 | exact P8 | exact P9 | exact P10 | exact P11 | exact P12 | exact P13 | exact P14 | exact P15 | exact P16 | exact P17 | exact P18 | exact P19 | exact P20 | exact P21 | exact P22 | exact P23)) | (apply Part.nilc))) ?_))
        refine ⟨?_, rfl⟩
        unfold mulW
        rw [if_neg (of_decide_eq_false hn), if_pos (of_decide_eq_true hi), if_pos (of_decide_eq_true hz)]; rfl
  · refine SPL_nil ?_
    refine thenP_n ?_
    refine SP_cond_t rfl ?_
    refine SP_seq ?_
    refine SP_region ?_
    refine SPL_y (y_assign rfl) rfl ?_
    refine SPL_nil ?_
    refine thenP_n ?_
    refine SP_ret ?_
    refine thenP_ret (bodyP_ret (H' := []) (Res1 rfl rfl) (by repeat (first | exact Part.nil _ | (apply Part.cons; with_reducible (first | exact P0 | exact P1 | exact P2 | exact P3 | exact P4 | exact P5 | exact P6 | exact P7 | exact P8 | exact P9 | exact P10 | exact P11 | exact P12 | exact P13 | exact P14 | exact P15 | exact P16 | exact P17 | exact P18 | exact P19 | exact P20 | exact P21 | exact P22 | exact P23)) | (apply Part.flat; simp only [List.cons_append, List.nil_append]) | (apply Part.cons; (first | exact P0 | exact P1 | exact P2 | exact P3 | exact P4 | exact P5 | exact P6 | exact P7 | exact P8 | exact P9 | exact P10 | exact P11 | exact P12 | exact P13 | exact P14 | exact P15 | exact P16 | exact P17 | exact P18 | exact P19 | exact P20 | exact P21 | exact P22 | exact P23)) | (apply Part.nilc))) ?_)
    refine ⟨?_, rfl⟩
    unfold mulW
    rw [if_pos (of_decide_eq_true hn)]; rfl

end Go.Sl
