/- Plain: floating point: numbers that the format has. -/
import Derived.Test.Qxb6500573aGreatDoorBR
namespace Go.Wl
open Go Go.Sl Go.Proofs
set_option linter.unusedVariables false
def mg (r : Nat) : Nat := if r < 4503599627370496 then r else 4503599627370496 + r % 4503599627370496
def pl (r : Nat) : Int := if r < 4503599627370496 then -1074 else -1074 + ((r / 4503599627370496 - 1 : Nat) : Int)
theorem fb : Ieee.double.binade = 4503599627370496 := by decide
theorem fi : Ieee.double.infRung = 9218868437227405312 := by decide
theorem fs : Ieee.double.signWeight = 9223372036854775808 := by decide
theorem fl : Ieee.double.leastPlace = -1074 := by decide
theorem read_fin {r : Nat} (h : r < 9218868437227405312) : FloatKind.f64.decode r = .number false (mg r) (pl r) := by
  show Ieee.double.read r = _
  unfold Ieee.Format.read mg pl
  rw [fb, fi, fs, fl]
  have e1 : r / 9223372036854775808 % 2 = 0 := by omega
  have e2 : r % 9223372036854775808 = r := by omega
  dsimp only
  rw [e1, e2]
  by_cases hb : r < 4503599627370496
  · rw [if_pos hb, if_pos hb, if_pos hb]; rfl
  · rw [if_neg hb, if_neg hb, if_neg hb, if_pos h]; rfl
theorem read_neg {r : Nat} (h : r < 9218868437227405312) : FloatKind.f64.decode (9223372036854775808 + r) = .number true (mg r) (pl r) := by
  show Ieee.double.read _ = _
  unfold Ieee.Format.read mg pl
  rw [fb, fi, fs, fl]
  have e1 : (9223372036854775808 + r) / 9223372036854775808 % 2 = 1 := by omega
  have e2 : (9223372036854775808 + r) % 9223372036854775808 = r := by omega
  dsimp only
  rw [e1, e2]
  by_cases hb : r < 4503599627370496
  · rw [if_pos hb, if_pos hb, if_pos hb]; rfl
  · rw [if_neg hb, if_neg hb, if_neg hb, if_pos h]; rfl
theorem log2_mul {n : Nat} (h : n ≠ 0) (k : Nat) : (n * 2 ^ k).log2 = n.log2 + k := by
  have hn : n * 2 ^ k ≠ 0 := Nat.mul_ne_zero h (Nat.pos_iff_ne_zero.1 (Nat.two_pow_pos k))
  have h1 : n.log2 + k ≤ (n * 2 ^ k).log2 := by
    rw [Nat.le_log2 hn, Nat.pow_add]
    exact Nat.mul_le_mul_right _ ((Nat.le_log2 h).1 (Nat.le_refl _))
  have h2 : (n * 2 ^ k).log2 < n.log2 + k + 1 := by
    rw [Nat.log2_lt hn, show n.log2 + k + 1 = (n.log2 + 1) + k from by omega, Nat.pow_add]
    exact Nat.mul_lt_mul_of_pos_right ((Nat.log2_lt h).1 (Nat.lt_succ_self _)) (Nat.two_pow_pos k)
  omega
theorem shl_eq (n k : Nat) : n <<< k = n * 2 ^ k := Nat.shiftLeft_eq n k
/-- What is dropped is nothing. -/
theorem cut_exact (way : Ieee.Toward) (m d : Nat) (hm : m ≠ 0) : way.cut false (m * 2 ^ d) d = m := by
  unfold Ieee.Toward.cut
  have hn : m * 2 ^ d ≠ 0 := Nat.mul_ne_zero hm (Nat.pos_iff_ne_zero.1 (Nat.two_pow_pos d))
  have hl : min d ((m * 2 ^ d).log2 + 2) = d := by rw [log2_mul hm]; omega
  dsimp only
  rw [hl, shl_eq, Nat.one_mul, Nat.mul_mod_left, Nat.mul_div_cancel _ (Nat.two_pow_pos d)]
  have hp := Nat.two_pow_pos d
  cases way with
  | even =>
    have : (decide (2 ^ d < 2 * 0) || 2 ^ d == 2 * 0 && m % 2 == 1) = false := by
      have h1 : ¬ (2 ^ d < 2 * 0) := by omega
      have h2 : (2 ^ d == 2 * 0) = false := by rw [beq_eq_false_iff_ne]; omega
      rw [h2, decide_eq_false h1]
      rfl
    dsimp only
    rw [this]
    rfl
  | down => rfl
  | up => simp
  | zero => rfl
theorem rung_eq (r : Nat) : (pl r - -1074).toNat * 4503599627370496 + mg r = r := by
  unfold pl mg
  by_cases hb : r < 4503599627370496
  · rw [if_pos hb, if_pos hb]
    show 0 * 4503599627370496 + r = r
    omega
  · rw [if_neg hb, if_neg hb]
    have e : (-1074 + ((r / 4503599627370496 - 1 : Nat) : Int) - -1074).toNat = r / 4503599627370496 - 1 := by omega
    rw [e]
    have h1 : 1 ≤ r / 4503599627370496 := by omega
    have h2 := Nat.div_add_mod r 4503599627370496
    rw [Nat.sub_mul, Nat.one_mul]
    omega
theorem word_f (n : Nat) : Ieee.double.word false n = n := by
  unfold Ieee.Format.word
  rw [if_neg (by decide)]
/-- The word of a number that the format has. -/
theorem near_exact {r : Nat} (h : r < 9218868437227405312) {mag : Nat} {place : Int} (i j : Nat) (hp : place - pl r = (i : Int) - j) (hv : mag * 2 ^ i = mg r * 2 ^ j) : Ieee.double.nearest false mag place = r := by
  unfold Ieee.Format.nearest
  by_cases h0 : mg r = 0
  · have hr : r = 0 := by
      unfold mg at h0
      split at h0
      · exact h0
      · omega
    have : mag = 0 := by
      rw [h0, Nat.zero_mul] at hv
      exact (Nat.mul_eq_zero.1 hv).resolve_right (Nat.pos_iff_ne_zero.1 (Nat.two_pow_pos i))
    rw [if_pos this, hr, word_f]
  · have hm : mag ≠ 0 := fun z => by
      rw [z, Nat.zero_mul] at hv
      exact (Nat.mul_ne_zero h0 (Nat.pos_iff_ne_zero.1 (Nat.two_pow_pos j))) hv.symm
    have hlog : mag.log2 + i = (mg r).log2 + j := by rw [← log2_mul hm, ← log2_mul h0, hv]
    rw [if_neg hm, fl]
    dsimp only
    have hlast : max (place + (mag.log2 : Int) - (Ieee.double.fractionBits : Int)) (-1074) = pl r := by
      have hf : (Ieee.double.fractionBits : Int) = 52 := rfl
      rw [hf]
      by_cases hb : r < 4503599627370496
      · have e1 : pl r = -1074 := by unfold pl; rw [if_pos hb]
        have e2 : (mg r).log2 < 52 := by
          rw [Nat.log2_lt h0]
          unfold mg
          rw [if_pos hb]
          exact hb
        omega
      · have e1 : pl r = -1074 + ((r / 4503599627370496 - 1 : Nat) : Int) := by unfold pl; rw [if_neg hb]
        have e2 : (mg r).log2 = 52 := by
          have a1 : mg r < 2 ^ 53 := by unfold mg; rw [if_neg hb]; omega
          have a2 : 2 ^ 52 ≤ mg r := by unfold mg; rw [if_neg hb]; omega
          have b1 := (Nat.log2_lt h0).2 a1
          have b2 := (Nat.le_log2 h0).2 a2
          omega
        omega
    rw [hlast]
    have hkept : Ieee.Toward.even.cut false (mag <<< (place - pl r).toNat) (pl r - place).toNat = mg r := by
      by_cases hij : j ≤ i
      · have e1 : (place - pl r).toNat = i - j := by omega
        have e2 : (pl r - place).toNat = 0 := by omega
        have e3 : mag * 2 ^ (i - j) = mg r := by
          have : mag * 2 ^ (i - j) * 2 ^ j = mg r * 2 ^ j := by rw [Nat.mul_assoc, ← Nat.pow_add, Nat.sub_add_cancel hij, hv]
          exact Nat.eq_of_mul_eq_mul_right (Nat.two_pow_pos j) this
        rw [e1, e2, shl_eq, e3]
        have := cut_exact .even (mg r) 0 h0
        rwa [Nat.pow_zero, Nat.mul_one] at this
      · have e1 : (place - pl r).toNat = 0 := by omega
        have e2 : (pl r - place).toNat = j - i := by omega
        have e3 : mag = mg r * 2 ^ (j - i) := by
          have : mag * 2 ^ i = mg r * 2 ^ (j - i) * 2 ^ i := by rw [Nat.mul_assoc, ← Nat.pow_add, Nat.sub_add_cancel (by omega), hv]
          exact Nat.eq_of_mul_eq_mul_right (Nat.two_pow_pos i) this
        rw [e1, e2, shl_eq, Nat.pow_zero, Nat.mul_one, e3]
        exact cut_exact .even (mg r) (j - i) h0
    rw [hkept, fb, fi, word_f]
    rw [rung_eq r]
    exact Nat.min_eq_left (Nat.le_of_lt h)
end Go.Wl
