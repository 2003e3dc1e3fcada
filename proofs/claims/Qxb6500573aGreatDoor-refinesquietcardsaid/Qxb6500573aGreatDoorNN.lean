/- numm: words and bits. -/
import Derived.Test.Qxb6500573aGreatDoorNM
namespace Go.Nm
open Ieee Go.Sl Go.Wl
set_option linter.unusedVariables false
set_option linter.unusedSimpArgs false
theorem w_and {x y : Nat} (hx : x < 18446744073709551616) (hy : y < 18446744073709551616) : bitI .and .u64 (x : Int) (y : Int) = ((x &&& y : Nat) : Int) := by
  show IntKind.u64.wrap ((BitVec.ofInt 64 (x : Int) &&& BitVec.ofInt 64 (y : Int)).toNat : Int) = _
  rw [ofInt_nat, ofInt_nat, BitVec.toNat_and, BitVec.toNat_ofNat, BitVec.toNat_ofNat, Nat.mod_eq_of_lt (show x < 2 ^ 64 from hx), Nat.mod_eq_of_lt (show y < 2 ^ 64 from hy)]
  exact u64n (Nat.lt_of_le_of_lt Nat.and_le_left hx)
theorem w_or {x y : Nat} (hx : x < 18446744073709551616) (hy : y < 18446744073709551616) : bitI .or .u64 (x : Int) (y : Int) = ((x ||| y : Nat) : Int) := by
  show IntKind.u64.wrap ((BitVec.ofInt 64 (x : Int) ||| BitVec.ofInt 64 (y : Int)).toNat : Int) = _
  rw [ofInt_nat, ofInt_nat, BitVec.toNat_or, BitVec.toNat_ofNat, BitVec.toNat_ofNat, Nat.mod_eq_of_lt (show x < 2 ^ 64 from hx), Nat.mod_eq_of_lt (show y < 2 ^ 64 from hy)]
  exact u64n (Nat.or_lt_two_pow (n := 64) hx hy)
theorem w_xor {x y : Nat} (hx : x < 18446744073709551616) (hy : y < 18446744073709551616) : bitI .xor .u64 (x : Int) (y : Int) = ((x ^^^ y : Nat) : Int) := by
  show IntKind.u64.wrap ((BitVec.ofInt 64 (x : Int) ^^^ BitVec.ofInt 64 (y : Int)).toNat : Int) = _
  rw [ofInt_nat, ofInt_nat, BitVec.toNat_xor, BitVec.toNat_ofNat, BitVec.toNat_ofNat, Nat.mod_eq_of_lt (show x < 2 ^ 64 from hx), Nat.mod_eq_of_lt (show y < 2 ^ 64 from hy)]
  exact u64n (Nat.xor_lt_two_pow (n := 64) hx hy)
theorem w_andNot {x y : Nat} (hx : x < 18446744073709551616) (hy : y < 18446744073709551616) : bitI .andNot .u64 (x : Int) (y : Int) = ((x &&& (18446744073709551615 - y) : Nat) : Int) := by
  show IntKind.u64.wrap ((BitVec.ofInt 64 (x : Int) &&& ~~~ BitVec.ofInt 64 (y : Int)).toNat : Int) = _
  rw [ofInt_nat, ofInt_nat, BitVec.toNat_and, BitVec.toNat_not, BitVec.toNat_ofNat, BitVec.toNat_ofNat, Nat.mod_eq_of_lt (show x < 2 ^ 64 from hx), Nat.mod_eq_of_lt (show y < 2 ^ 64 from hy), show 2 ^ 64 - 1 - y = 18446744073709551615 - y by omega]
  exact u64n (Nat.lt_of_le_of_lt Nat.and_le_left hx)
theorem and_mod (x k : Nat) : x &&& (2 ^ k - 1) = x % 2 ^ k := Nat.and_two_pow_sub_one_eq_mod x k
theorem w_mg {x : Nat} (hx : x < 18446744073709551616) : bitI .andNot .u64 (x : Int) 9223372036854775808 = ((mgW x : Nat) : Int) := by
  have := w_andNot hx (y := 9223372036854775808) (by decide)
  rw [show ((9223372036854775808 : Nat) : Int) = 9223372036854775808 from rfl] at this
  rw [this, show (18446744073709551615 - 9223372036854775808 : Nat) = 2 ^ 63 - 1 by decide, and_mod]; rfl
theorem pick_n (m t : Nat) : m &&& 2 ^ t = m / 2 ^ t % 2 * 2 ^ t := by
  apply Nat.eq_of_testBit_eq
  intro i
  have e1 := Nat.testBit_mod_two_pow (m / 2 ^ t) 1 (i - t)
  rw [Nat.pow_one] at e1
  rw [Nat.testBit_and, Nat.testBit_two_pow, Nat.testBit_mul_two_pow, e1, Nat.testBit_div_two_pow]
  by_cases hi : t = i
  · subst hi; simp
  · by_cases h3 : t ≤ i
    · have h4 : ¬ i - t < 1 := by omega
      simp [hi, h4]
    · simp [hi, h3]
theorem w_sg {x : Nat} (hx : x < 18446744073709551616) : bitI .and .u64 (x : Int) 9223372036854775808 = ((sgB (sgW x) : Nat) : Int) := by
  have := w_and hx (y := 9223372036854775808) (by decide)
  rw [show ((9223372036854775808 : Nat) : Int) = 9223372036854775808 from rfl] at this
  rw [this, show (9223372036854775808 : Nat) = 2 ^ 63 by decide, pick_n, sg_split hx, Nat.mod_eq_of_lt (show x / 2 ^ 63 < 2 by omega)]
theorem w_man {x : Nat} (hx : x < 18446744073709551616) : bitI .and .u64 (x : Int) 4503599627370495 = ((x % 4503599627370496 : Nat) : Int) := by
  have := w_and hx (y := 4503599627370495) (by decide)
  rw [show ((4503599627370495 : Nat) : Int) = 4503599627370495 from rfl] at this
  rw [this, show (4503599627370495 : Nat) = 2 ^ 52 - 1 by decide, and_mod]
theorem or_add {a b k : Nat} (h : a < 2 ^ k) : (2 ^ k * b) ||| a = 2 ^ k * b + a := (Nat.two_pow_add_eq_or_of_lt h b).symm
theorem w_orS (s : Bool) {x : Nat} (hx : x < 9223372036854775808) : bitI .or .u64 ((sgB s : Nat) : Int) (x : Int) = ((sgB s + x : Nat) : Int) := by
  rw [w_or (by cases s <;> decide) (by omega)]
  cases s
  · simp [sgB]
  · have := or_add (a := x) (b := 1) (k := 63) (by simpa using hx)
    rw [Nat.mul_one] at this
    rw [show sgB true = 2 ^ 63 from rfl, this]
theorem w_orI (s : Bool) : bitI .or .u64 ((sgB s : Nat) : Int) 9218868437227405312 = ((sgB s + infB : Nat) : Int) := w_orS s (x := infB) (by decide)
theorem w_flip {x : Nat} (hx : x < 18446744073709551616) : bitI .xor .u64 (x : Int) 9223372036854775808 = ((flipW x : Nat) : Int) := by
  have h1 := w_xor hx (y := 9223372036854775808) (by decide)
  rw [show ((9223372036854775808 : Nat) : Int) = 9223372036854775808 from rfl] at h1
  rw [h1]
  congr 1
  unfold flipW
  apply Nat.eq_of_testBit_eq
  intro i
  rw [Nat.testBit_xor, show (9223372036854775808 : Nat) = 2 ^ 63 by decide, Nat.testBit_two_pow]
  split
  · rename_i c
    have e2 := Nat.two_pow_add_eq_or_of_lt (i := 63) (b := x) c 1
    rw [Nat.mul_one] at e2
    rw [Nat.add_comm, e2, Nat.testBit_or, Nat.testBit_two_pow]
    by_cases q : 63 = i
    · subst q; rw [Nat.testBit_lt_two_pow c]; simp
    · simp [q]
  · rename_i c
    have e3 : x - 2 ^ 63 < 2 ^ 63 := by omega
    have e2 := Nat.two_pow_add_eq_or_of_lt (i := 63) (b := x - 2 ^ 63) e3 1
    rw [Nat.mul_one] at e2
    have e4 : x = 2 ^ 63 ||| (x - 2 ^ 63) := by rw [← e2]; omega
    conv => lhs; rw [e4]
    rw [Nat.testBit_or, Nat.testBit_two_pow]
    by_cases q : 63 = i
    · subst q; rw [Nat.testBit_lt_two_pow e3]; simp
    · simp [q]
theorem w_com {x : Nat} (hx : x < 18446744073709551616) : bitI .xor .u64 (if IntKind.u64.signed then -1 else IntKind.u64.max) (x : Int) = ((18446744073709551615 - x : Nat) : Int) := by
  show IntKind.u64.wrap ((BitVec.ofInt 64 (18446744073709551615 : Int) ^^^ BitVec.ofInt 64 _).toNat : Int) = _
  rw [ofInt_nat, show BitVec.ofInt 64 (18446744073709551615 : Int) = BitVec.allOnes 64 by decide, BitVec.allOnes_xor, BitVec.toNat_not, BitVec.toNat_ofNat, Nat.mod_eq_of_lt (show x < 2 ^ 64 by omega)]
  exact u64n (by omega)
theorem w_shr {x k : Nat} (hk : k ≤ 64) : ((x : Int)).fdiv (2 ^ (min ((k : Int)).toNat IntKind.u64.bits)) = ((x / 2 ^ k : Nat) : Int) := by
  rw [show min ((k : Int)).toNat IntKind.u64.bits = k by show min _ 64 = _; omega, Int.fdiv_eq_ediv_of_nonneg _ (Int.le_of_lt (Int.pow_pos (by decide)))]
  simp
theorem w_shl {x k : Nat} (hk : k ≤ 64) : IntKind.u64.wrap ((x : Int) * 2 ^ (min ((k : Int)).toNat IntKind.u64.bits)) = ((x * 2 ^ k % 18446744073709551616 : Nat) : Int) := by
  rw [show min ((k : Int)).toNat IntKind.u64.bits = k by show min _ 64 = _; omega]
  rw [show (x : Int) * 2 ^ k = ((x * 2 ^ k : Nat) : Int) by simp]
  simp [IntKind.wrap, IntKind.bits, IntKind.signed]
theorem bne_sg {x : Nat} : ((sgB (sgW x) : Nat) : Int) ≠ 0 ↔ sgW x = true := by
  cases sgW x
  · exact ⟨fun q => absurd rfl q, fun q => by cases q⟩
  · exact ⟨fun _ => rfl, fun _ => by decide⟩
theorem packM_lt (s : Bool) (m : Nat) (e : Int) (st : Bool) : pkM s m e st < 18446744073709551616 := by
  have h1 : sgB s ≤ 9223372036854775808 := by cases s <;> decide
  have h3 : sgB s + infB < 18446744073709551616 := by unfold infB; omega
  by_cases h0 : m = 0
  · subst h0; unfold pkM; rw [if_pos rfl]; omega
  · unfold pkM
    rw [if_neg h0]
    by_cases c1 : 1023 < e + (m.log2 : Int)
    · rw [if_pos c1]; exact h3
    · rw [if_neg c1]
      by_cases c2 : 64 < drpP (e + (m.log2 : Int))
      · rw [if_pos c2]; omega
      · rw [if_neg c2]
        have key : ∀ r, (if infB ≤ r then sgB s + infB else sgB s + r) < 18446744073709551616 := by
          intro r
          by_cases c : infB ≤ r
          · rw [if_pos c]; exact h3
          · rw [if_neg c]; exact Nat.lt_of_lt_of_le (Nat.add_lt_add_left (Nat.lt_of_not_le c) _) (Nat.le_of_lt h3)
        exact key _
theorem addW_lt {a b : Nat} (ha : a < 18446744073709551616) (hb : b < 18446744073709551616) : addW a b < 18446744073709551616 := by
  rw [addW_ok ha hb]
  cases h : double.add a b with
  | none => decide
  | some r => exact (add_noNaN h).2
theorem mulW_lt {a b : Nat} (ha : a < 18446744073709551616) (hb : b < 18446744073709551616) : mulW a b < 18446744073709551616 := by
  rw [mulW_ok ha hb]
  cases h : double.mul a b with
  | none => decide
  | some r => exact (mul_noNaN h).2
theorem divW_lt {a b : Nat} (ha : a < 18446744073709551616) (hb : b < 18446744073709551616) : divW a b < 18446744073709551616 := by
  rw [divW_ok ha hb]
  cases h : double.div a b with
  | none => decide
  | some r => exact (div_noNaN h).2
theorem floorW_lt {x : Nat} (h : x < 18446744073709551616) : floorW x < 18446744073709551616 := by
  by_cases n : isNaNW x
  · unfold floorW; rw [if_pos n]; decide
  · rw [floorW_ok h n]; exact (floor_noNaN n).2
end Go.Nm
