/- The model's integer unit and memory: plain, and equal to the real ones. -/
import Derived.Test.Qxb6500572aGreatDoorWMachD
namespace Go.Wl
open Go Go.Sl
set_option linter.unusedVariables false
def mbin (kind a b mask top : Int) : Int × Int :=
  if 3 ≤ kind ∧ kind ≤ 6 ∧ b = 0 then (0, 11)
  else if kind = 0 then (IntKind.i64.wrap (a + b), 0)
  else if kind = 1 then (IntKind.i64.wrap (a - b), 0)
  else if kind = 2 then (IntKind.i64.wrap (a * b), 0)
  else if kind = 3 then (if b = -1 then IntKind.i64.wrap (-a) else IntKind.i64.wrap (a.tdiv b), 0)
  else if kind = 4 then (IntKind.i64.wrap (IntKind.u64.wrap ((bitI .and .u64 (IntKind.u64.wrap a) mask).tdiv (bitI .and .u64 (IntKind.u64.wrap b) mask))), 0)
  else if kind = 5 then (if b = -1 then 0 else a.tmod b, 0)
  else if kind = 6 then (IntKind.i64.wrap ((bitI .and .u64 (IntKind.u64.wrap a) mask).tmod (bitI .and .u64 (IntKind.u64.wrap b) mask)), 0)
  else if kind = 7 then (bitI .and .i64 a b, 0)
  else if kind = 8 then (bitI .or .i64 a b, 0)
  else if kind = 9 then (bitI .xor .i64 a b, 0)
  else if kind = 10 then (IntKind.i64.wrap (a * 2 ^ (min (bitI .and .i64 b top).toNat 64)), 0)
  else if kind = 11 then (a.fdiv (2 ^ (min (bitI .and .i64 b top).toNat 64)), 0)
  else if kind = 12 then (IntKind.i64.wrap ((bitI .and .u64 (IntKind.u64.wrap a) mask).fdiv (2 ^ (min (bitI .and .i64 b top).toNat 64))), 0)
  else if kind = 13 then (tr (decide (a = b)), 0)
  else if kind = 14 then (tr (decide (a < b)), 0)
  else (tr (decide (bitI .and .u64 (IntKind.u64.wrap a) mask < bitI .and .u64 (IntKind.u64.wrap b) mask)), 0)
def malu (op a b : Int) : Int × Int :=
  if op = 29 then (tr (decide (IntKind.i32.wrap a = 0)), 0) else if op = 30 then (tr (decide (a = 0)), 0)
  else if op = 31 ∨ op = 32 then (IntKind.i64.wrap (IntKind.i32.wrap a), 0) else if op = 33 then (bitI .and .i64 a 4294967295, 0)
  else if 40 ≤ op ∧ op < 56 then (IntKind.i64.wrap (IntKind.i32.wrap (mbin (op - 40) (IntKind.i64.wrap (IntKind.i32.wrap a)) (IntKind.i64.wrap (IntKind.i32.wrap b)) 4294967295 31).1), (mbin (op - 40) (IntKind.i64.wrap (IntKind.i32.wrap a)) (IntKind.i64.wrap (IntKind.i32.wrap b)) 4294967295 31).2)
  else if 60 ≤ op ∧ op < 76 then mbin (op - 60) a b 18446744073709551615 63
  else (0, 9)
theorem and_full (a : Int) : bitI .and .u64 (IntKind.u64.wrap a) 18446744073709551615 = IntKind.u64.wrap a := by
  have e : BitVec.ofInt 64 (18446744073709551615 : Int) = BitVec.allOnes 64 := by decide
  show IntKind.u64.wrap ((BitVec.ofInt 64 (IntKind.u64.wrap a) &&& BitVec.ofInt 64 18446744073709551615).toNat : Int) = _
  rw [e, BitVec.and_allOnes, BitVec.toNat_ofInt]
  simp only [IntKind.wrap_u64]; omega
theorem and_u32 (a : Int) : bitI .and .u64 (IntKind.u64.wrap a) 4294967295 = a % 4294967296 := by
  have e : BitVec.ofInt 64 (4294967295 : Int) = BitVec.ofNat 64 4294967295 := by decide
  show IntKind.u64.wrap ((BitVec.ofInt 64 (IntKind.u64.wrap a) &&& BitVec.ofInt 64 4294967295).toNat : Int) = _
  rw [e, BitVec.toNat_and, BitVec.toNat_ofInt, BitVec.toNat_ofNat, show (4294967295 % 2 ^ 64) = 2 ^ 32 - 1 by decide, Nat.and_two_pow_sub_one_eq_mod]
  simp only [IntKind.wrap_u64]; omega
theorem and_63 (a : Int) : bitI .and .i64 a 63 = a % 64 := by
  have e : BitVec.ofInt 64 (63 : Int) = BitVec.ofNat 64 63 := by decide
  show IntKind.i64.wrap ((BitVec.ofInt 64 a &&& BitVec.ofInt 64 63).toNat : Int) = _
  rw [e, BitVec.toNat_and, BitVec.toNat_ofInt, BitVec.toNat_ofNat, show (63 % 2 ^ 64) = 2 ^ 6 - 1 by decide, Nat.and_two_pow_sub_one_eq_mod]
  simp only [IntKind.wrap_i64]; omega
theorem and_31 (a : Int) : bitI .and .i64 a 31 = a % 32 := by
  have e : BitVec.ofInt 64 (31 : Int) = BitVec.ofNat 64 31 := by decide
  show IntKind.i64.wrap ((BitVec.ofInt 64 a &&& BitVec.ofInt 64 31).toNat : Int) = _
  rw [e, BitVec.toNat_and, BitVec.toNat_ofInt, BitVec.toNat_ofNat, show (31 % 2 ^ 64) = 2 ^ 5 - 1 by decide, Nat.and_two_pow_sub_one_eq_mod]
  simp only [IntKind.wrap_i64]; omega
theorem shc64 (b : Int) : shc .u64 b = b % 64 := by
  have e : bitI .and .u64 ((bitI .xor .u64 (if IntKind.u64.signed then -1 else IntKind.u64.max) (IntKind.u64.wrap 0)).fdiv (2 ^ (min (27 : Int).toNat IntKind.u64.bits))) 63 = 63 := by decide
  unfold shc
  rw [e]
  have e : BitVec.ofInt 64 (63 : Int) = BitVec.ofNat 64 63 := by decide
  show IntKind.u64.wrap ((BitVec.ofInt 64 (IntKind.u64.wrap b) &&& BitVec.ofInt 64 63).toNat : Int) = _
  rw [e, BitVec.toNat_and, BitVec.toNat_ofInt, BitVec.toNat_ofNat, show (63 % 2 ^ 64) = 2 ^ 6 - 1 by decide, Nat.and_two_pow_sub_one_eq_mod]
  simp only [IntKind.wrap_u64]; omega
theorem shc32 (b : Int) : shc .u32 b = b % 32 := by
  have e : bitI .and .u32 ((bitI .xor .u32 (if IntKind.u32.signed then -1 else IntKind.u32.max) (IntKind.u32.wrap 0)).fdiv (2 ^ (min (27 : Int).toNat IntKind.u32.bits))) 63 = 31 := by decide
  unfold shc
  rw [e]
  have e : BitVec.ofInt 32 (31 : Int) = BitVec.ofNat 32 31 := by decide
  show IntKind.u32.wrap ((BitVec.ofInt 32 (IntKind.u32.wrap b) &&& BitVec.ofInt 32 31).toNat : Int) = _
  rw [e, BitVec.toNat_and, BitVec.toNat_ofInt, BitVec.toNat_ofNat, show (31 % 2 ^ 32) = 2 ^ 5 - 1 by decide, Nat.and_two_pow_sub_one_eq_mod]
  simp only [IntKind.wrap_u32]; omega
theorem cut32 (a : Int) : (BitVec.ofInt 64 a).setWidth 32 = BitVec.ofInt 32 a := by
  apply BitVec.eq_of_toNat_eq
  rw [BitVec.toNat_setWidth, BitVec.toNat_ofInt, BitVec.toNat_ofInt]
  omega
theorem w32 (a : Int) : IntKind.i64.wrap (IntKind.i32.wrap a) = IntKind.i32.wrap a := by simp only [IntKind.wrap_i64, IntKind.wrap_i32]; omega
theorem w32b (a : Int) : IntKind.i32.wrap (IntKind.i64.wrap a) = IntKind.i32.wrap a := by simp only [IntKind.wrap_i64, IntKind.wrap_i32]; omega
theorem w32n {n : Nat} : IntKind.i32.wrap (n : Int) = IntKind.i32.wrap ((n % 2 ^ 32 : Nat) : Int) := by simp only [IntKind.wrap_i32]; omega
theorem and3264 (a b : Int) : IntKind.i32.wrap (bitI .and .i64 a b) = bitI .and .i32 a b := by
  show IntKind.i32.wrap (IntKind.i64.wrap ((BitVec.ofInt 64 a &&& BitVec.ofInt 64 b).toNat : Int)) = IntKind.i32.wrap ((BitVec.ofInt 32 a &&& BitVec.ofInt 32 b).toNat : Int)
  rw [w32b, ← cut32, ← cut32, ← BitVec.setWidth_and, BitVec.toNat_setWidth, ← w32n]
theorem or3264 (a b : Int) : IntKind.i32.wrap (bitI .or .i64 a b) = bitI .or .i32 a b := by
  show IntKind.i32.wrap (IntKind.i64.wrap ((BitVec.ofInt 64 a ||| BitVec.ofInt 64 b).toNat : Int)) = IntKind.i32.wrap ((BitVec.ofInt 32 a ||| BitVec.ofInt 32 b).toNat : Int)
  rw [w32b, ← cut32, ← cut32, ← BitVec.setWidth_or, BitVec.toNat_setWidth, ← w32n]
theorem xor3264 (a b : Int) : IntKind.i32.wrap (bitI .xor .i64 a b) = bitI .xor .i32 a b := by
  show IntKind.i32.wrap (IntKind.i64.wrap ((BitVec.ofInt 64 a ^^^ BitVec.ofInt 64 b).toNat : Int)) = IntKind.i32.wrap ((BitVec.ofInt 32 a ^^^ BitVec.ofInt 32 b).toNat : Int)
  rw [w32b, ← cut32, ← cut32, ← BitVec.setWidth_xor, BitVec.toNat_setWidth, ← w32n]
theorem tmod_m1 (a : Int) : a.tmod (-1) = 0 := by rw [Int.tmod_neg, Int.tmod_one]
theorem tdiv_m1 (a : Int) : a.tdiv (-1) = -a := by rw [Int.tdiv_neg, Int.tdiv_one]
theorem mbin64 {kind a b : Int} (h0 : 0 ≤ kind) (h1 : kind ≤ 15) : mbin kind a b 18446744073709551615 63 = unitF .i64 .u64 kind a b := by
  unfold mbin unitF
  by_cases hz : b = 0 ∧ 3 ≤ kind ∧ kind ≤ 6
  · rw [if_pos hz, if_pos (by omega)]
  rw [if_neg hz, if_neg (by omega)]
  simp only [and_full, and_63, outR]
  rcases (show kind = 0 ∨ kind = 1 ∨ kind = 2 ∨ kind = 3 ∨ kind = 4 ∨ kind = 5 ∨ kind = 6 ∨ kind = 7 ∨ kind = 8 ∨ kind = 9 ∨ kind = 10 ∨ kind = 11 ∨ kind = 12 ∨ kind = 13 ∨ kind = 14 ∨ kind = 15 by omega) with e | e | e | e | e | e | e | e | e | e | e | e | e | e | e | e <;> subst e <;> simp [unitR, shc64]
  · intro hb; subst hb; rw [tdiv_m1]
  · intro hb; subst hb; rw [tmod_m1]
  · rfl
  · rfl
  · rfl
theorem i32_rng (a : Int) : -2147483648 ≤ IntKind.i32.wrap a ∧ IntKind.i32.wrap a ≤ 2147483647 := by simp only [IntKind.wrap_i32]; omega
theorem fdiv_rng {a : Int} (n : Nat) (h1 : -2147483648 ≤ a) (h2 : a ≤ 2147483647) : -2147483648 ≤ a.fdiv (2 ^ n) ∧ a.fdiv (2 ^ n) ≤ 2147483647 := by
  have hp : (0 : Int) < 2 ^ n := Int.pow_pos (by decide)
  rw [Int.fdiv_eq_ediv_of_nonneg _ (by omega)]
  constructor
  · apply Int.le_ediv_of_mul_le hp
    have h3 : (1 : Int) ≤ 2 ^ n := hp
    have h4 := Int.mul_le_mul_of_nonneg_left h3 (show (0 : Int) ≤ 2147483648 by decide)
    omega
  · rcases Int.le_total 0 a with h | h
    · exact Int.le_trans (Int.ediv_le_self _ h) h2
    · have := Int.ediv_le_ediv hp h; simp at this; omega
theorem tmod_rng {a b : Int} (h1 : -2147483648 ≤ a) (h2 : a ≤ 2147483647) : -2147483648 ≤ a.tmod b ∧ a.tmod b ≤ 2147483647 := by
  have h := Int.natAbs_tmod a b
  have : a.natAbs % b.natAbs ≤ a.natAbs := Nat.mod_le _ _
  rcases Int.le_total 0 a with h0 | h0
  · have := Int.tmod_nonneg b h0; omega
  · have : (-a).tmod b = -(a.tmod b) := Int.neg_tmod a b
    have := Int.tmod_nonneg b (show 0 ≤ -a by omega); omega
theorem mbin32 {kind a b : Int} (h0 : 0 ≤ kind) (h1 : kind ≤ 15) (ha1 : -2147483648 ≤ a) (ha2 : a ≤ 2147483647) (hb1 : -2147483648 ≤ b) (hb2 : b ≤ 2147483647) :
    (IntKind.i64.wrap (IntKind.i32.wrap (mbin kind a b 4294967295 31).1), (mbin kind a b 4294967295 31).2) = unitF .i32 .u32 kind a b := by
  unfold mbin unitF
  by_cases hz : b = 0 ∧ 3 ≤ kind ∧ kind ≤ 6
  · rw [if_pos hz, if_pos (by omega)]; rfl
  rw [if_neg hz, if_neg (by omega)]
  have hu : ∀ x : Int, IntKind.u32.wrap x = x % 4294967296 := IntKind.wrap_u32
  have ht : ∀ x : Bool, IntKind.i64.wrap (IntKind.i32.wrap (tr x)) = tr x := by decide
  simp only [and_u32, and_31, outR]
  rcases (show kind = 0 ∨ kind = 1 ∨ kind = 2 ∨ kind = 3 ∨ kind = 4 ∨ kind = 5 ∨ kind = 6 ∨ kind = 7 ∨ kind = 8 ∨ kind = 9 ∨ kind = 10 ∨ kind = 11 ∨ kind = 12 ∨ kind = 13 ∨ kind = 14 ∨ kind = 15 by omega) with e | e | e | e | e | e | e | e | e | e | e | e | e | e | e | e <;> subst e <;> simp [unitR, shc32, and3264, or3264, xor3264, w32, w32b, hu, ht]
  · split
    · rename_i hb; subst hb; rw [tdiv_m1, w32b]
    · rw [w32b]
  · generalize (a % 4294967296).tdiv (b % 4294967296) = q
    simp only [IntKind.wrap_i32, IntKind.wrap_u64]; omega
  · have h := tmod_rng (b := b) ha1 ha2
    split
    · rename_i hb; subst hb; rw [tmod_m1]; decide
    · simp only [IntKind.wrap_i32, IntKind.wrap_i64]; omega
  · rw [show min (b % 32).toNat 64 = min (b % 32).toNat 32 by omega]; rfl
  · have h := fdiv_rng (min (b % 32).toNat 32) ha1 ha2
    rw [show min (b % 32).toNat 64 = min (b % 32).toNat 32 by omega, show IntKind.i32.bits = 32 from rfl]
    simp only [IntKind.wrap_i32, IntKind.wrap_i64]; omega
  · rw [show min (b % 32).toNat 64 = min (b % 32).toNat 32 by omega]; rfl
theorem malu_eq {op a b : Int} : malu op a b = alu op a b := by
  unfold malu alu
  split
  · rfl
  split
  · rfl
  split
  · rfl
  split
  · rw [bit_andU32]
    simp only [IntKind.wrap_u32, IntKind.wrap_i64]
    congr 1; omega
  split
  · rename_i h
    rw [w32 a, w32 b]
    exact mbin32 (by omega) (by omega) (i32_rng a).1 (i32_rng a).2 (i32_rng b).1 (i32_rng b).2
  split
  · exact mbin64 (by omega) (by omega)
  · rfl
/-! Loads: little-endian. -/
def leI : List UInt8 → Int
  | [] => 0
  | b :: l => bitI .or .i64 (IntKind.i64.wrap (leI l * 2 ^ 8)) b.toNat
def leN : List UInt8 → Nat
  | [] => 0
  | b :: l => b.toNat + 256 * leN l
theorem or_lo {w k x y : Nat} (hx : x < 2 ^ k) (hy : y * 2 ^ k < 2 ^ w) (hk : k ≤ w) : (BitVec.ofNat w (y * 2 ^ k) ||| BitVec.ofNat w x).toNat = y * 2 ^ k + x := by
  have hxw : x < 2 ^ w := Nat.lt_of_lt_of_le hx (Nat.pow_le_pow_right (by decide) hk)
  rw [BitVec.toNat_or, BitVec.toNat_ofNat, BitVec.toNat_ofNat, Nat.mod_eq_of_lt hy, Nat.mod_eq_of_lt hxw, Nat.mul_comm, Nat.two_pow_add_eq_or_of_lt hx]
theorem or_hi {w k x y : Nat} (hx : x < 2 ^ k) (hy : y * 2 ^ k < 2 ^ w) (hk : k ≤ w) : (BitVec.ofNat w x ||| BitVec.ofNat w (y * 2 ^ k)).toNat = x + y * 2 ^ k := by
  rw [BitVec.or_comm, or_lo hx hy hk, Nat.add_comm]
theorem or64 {x : Nat} {y : Int} (hx : x < 256) : ((BitVec.ofInt 64 (y * 2 ^ 8) ||| BitVec.ofInt 64 (x : Int)).toNat : Int) = (y * 256 + x) % 18446744073709551616 := by
  have e : BitVec.ofInt 64 (y * 2 ^ 8) = BitVec.ofNat 64 ((y % 72057594037927936).toNat * 2 ^ 8) := by
    apply BitVec.eq_of_toNat_eq
    rw [BitVec.toNat_ofInt, BitVec.toNat_ofNat]
    omega
  rw [e, ofInt_nat, or_lo (by omega) (by omega) (by decide)]
  omega
theorem leI_eq : ∀ l : List UInt8, leI l = IntKind.i64.wrap (leN l : Int)
  | [] => by decide
  | b :: l => by
    have hb : b.toNat < 256 := b.toNat_lt
    have e : BitVec.ofInt 64 (IntKind.i64.wrap (leI l * 2 ^ 8)) = BitVec.ofInt 64 (leI l * 2 ^ 8) := by
      apply BitVec.eq_of_toNat_eq
      rw [BitVec.toNat_ofInt, BitVec.toNat_ofInt, IntKind.wrap_i64]
      omega
    show IntKind.i64.wrap ((BitVec.ofInt 64 (IntKind.i64.wrap (leI l * 2 ^ 8)) ||| BitVec.ofInt 64 (b.toNat : Int)).toNat : Int) = _
    rw [e, or64 hb, leI_eq l]
    show _ = IntKind.i64.wrap ((b.toNat + 256 * leN l : Nat) : Int)
    simp only [IntKind.wrap_i64]
    omega
theorem le16_eq (b0 b1 : UInt8) : le16 b0 b1 = ((b0.toNat + 256 * b1.toNat : Nat) : Int) := by
  have h0 : b0.toNat < 256 := b0.toNat_lt
  have h1 : b1.toNat < 256 := b1.toNat_lt
  have e0 : IntKind.u16.wrap b0.toNat = ((b0.toNat : Nat) : Int) := by rw [IntKind.wrap_u16]; omega
  have e1 : IntKind.u16.wrap (IntKind.u16.wrap b1.toNat * 2 ^ 8) = ((b1.toNat * 2 ^ 8 : Nat) : Int) := by simp only [IntKind.wrap_u16]; omega
  show IntKind.u16.wrap ((BitVec.ofInt 16 (IntKind.u16.wrap b0.toNat) ||| BitVec.ofInt 16 (IntKind.u16.wrap (IntKind.u16.wrap b1.toNat * 2 ^ 8))).toNat : Int) = _
  rw [e0, e1, ofInt_nat, ofInt_nat, or_hi (by omega) (by omega) (by decide), IntKind.wrap_u16]
  omega
theorem or32 {k x y : Nat} (hx : x < 2 ^ k) (hy : y * 2 ^ k < 2 ^ 32) (hk : k ≤ 32) : bitI .or .u32 (x : Int) ((y * 2 ^ k : Nat) : Int) = ((x + y * 2 ^ k : Nat) : Int) := by
  show IntKind.u32.wrap ((BitVec.ofInt 32 (x : Int) ||| BitVec.ofInt 32 ((y * 2 ^ k : Nat) : Int)).toNat : Int) = _
  have := or_hi hx hy hk
  have hl : x + y * 2 ^ k < 2 ^ 32 := by rw [← this]; exact BitVec.isLt _
  rw [ofInt_nat, ofInt_nat, this, IntKind.wrap_u32]
  omega
theorem le32_eq (b0 b1 b2 b3 : UInt8) : le32 b0 b1 b2 b3 = ((b0.toNat + 256 * (b1.toNat + 256 * (b2.toNat + 256 * b3.toNat)) : Nat) : Int) := by
  have h0 : b0.toNat < 256 := b0.toNat_lt
  have h1 : b1.toNat < 256 := b1.toNat_lt
  have h2 : b2.toNat < 256 := b2.toNat_lt
  have h3 : b3.toNat < 256 := b3.toNat_lt
  have e0 : IntKind.u32.wrap b0.toNat = ((b0.toNat : Nat) : Int) := by rw [IntKind.wrap_u32]; omega
  have e1 : IntKind.u32.wrap (IntKind.u32.wrap b1.toNat * 2 ^ 8) = ((b1.toNat * 2 ^ 8 : Nat) : Int) := by simp only [IntKind.wrap_u32]; omega
  have e2 : IntKind.u32.wrap (IntKind.u32.wrap b2.toNat * 2 ^ 16) = ((b2.toNat * 2 ^ 16 : Nat) : Int) := by simp only [IntKind.wrap_u32]; omega
  have e3 : IntKind.u32.wrap (IntKind.u32.wrap b3.toNat * 2 ^ 24) = ((b3.toNat * 2 ^ 24 : Nat) : Int) := by simp only [IntKind.wrap_u32]; omega
  unfold le32
  rw [e0, e1, e2, e3, or32 (by omega) (by omega) (by decide), or32 (by omega) (by omega) (by decide), or32 (by omega) (by omega) (by decide)]
  omega
/-- What the model's load makes of the bytes. -/
def mloadV (op : Int) (l : List UInt8) : Int :=
  if op = 21 then IntKind.i64.wrap (IntKind.i8.wrap (leI l)) else if op = 23 then IntKind.i64.wrap (IntKind.i16.wrap (leI l)) else if op = 19 then IntKind.i64.wrap (IntKind.i32.wrap (leI l)) else leI l
theorem pad8_4 (b0 b1 b2 b3 : UInt8) : pad8 [b0, b1, b2, b3] = [b0, b1, b2, b3, 0, 0, 0, 0] := rfl
theorem pad8_1 (b0 : UInt8) : pad8 [b0] = [b0, 0, 0, 0, 0, 0, 0, 0] := rfl
theorem pad8_2 (b0 b1 : UInt8) : pad8 [b0, b1] = [b0, b1, 0, 0, 0, 0, 0, 0] := rfl
theorem pad8_8 (b0 b1 b2 b3 b4 b5 b6 b7 : UInt8) : pad8 [b0, b1, b2, b3, b4, b5, b6, b7] = [b0, b1, b2, b3, b4, b5, b6, b7] := rfl
theorem lv19 (b0 b1 b2 b3 : UInt8) : mloadV 19 [b0, b1, b2, b3] = load8 19 (pad8 [b0, b1, b2, b3]) := by
  simp only [mloadV, pad8_4, load8, loadV]
  simp only [show ¬ ((19 : Int) = 21) by decide, show ¬ ((19 : Int) = 22) by decide, show ¬ ((19 : Int) = 23) by decide, show ¬ ((19 : Int) = 24) by decide, if_false, if_true]
  rw [le32_eq, leI_eq, w32b]
  simp only [leN, Nat.mul_zero, Nat.add_zero]
theorem lv20 (b0 b1 b2 b3 b4 b5 b6 b7 : UInt8) : mloadV 20 [b0, b1, b2, b3, b4, b5, b6, b7] = load8 20 (pad8 [b0, b1, b2, b3, b4, b5, b6, b7]) := by
  simp only [mloadV, pad8_8, load8, loadV]
  simp only [show ¬ ((20 : Int) = 21) by decide, show ¬ ((20 : Int) = 22) by decide, show ¬ ((20 : Int) = 23) by decide, show ¬ ((20 : Int) = 24) by decide, show ¬ ((20 : Int) = 19) by decide, if_false]
  have h0 : b0.toNat < 256 := b0.toNat_lt
  have h1 : b1.toNat < 256 := b1.toNat_lt
  have h2 : b2.toNat < 256 := b2.toNat_lt
  have h3 : b3.toNat < 256 := b3.toNat_lt
  have h4 : b4.toNat < 256 := b4.toNat_lt
  have h5 : b5.toNat < 256 := b5.toNat_lt
  have h6 : b6.toNat < 256 := b6.toNat_lt
  have h7 : b7.toNat < 256 := b7.toNat_lt
  rw [le32_eq, le32_eq, leI_eq]
  simp only [leN, Nat.mul_zero, Nat.add_zero]
  obtain ⟨lo, hlo⟩ : ∃ lo, b0.toNat + 256 * (b1.toNat + 256 * (b2.toNat + 256 * b3.toNat)) = lo := ⟨_, rfl⟩
  obtain ⟨hi, hhi⟩ : ∃ hi, b4.toNat + 256 * (b5.toNat + 256 * (b6.toNat + 256 * b7.toNat)) = hi := ⟨_, rfl⟩
  have e0 : b0.toNat + 256 * (b1.toNat + 256 * (b2.toNat + 256 * (b3.toNat + 256 * (b4.toNat + 256 * (b5.toNat + 256 * (b6.toNat + 256 * b7.toNat)))))) = hi * 2 ^ 32 + lo := by omega
  rw [e0, hlo, hhi]
  have hl : lo < 4294967296 := by omega
  have hh : hi < 4294967296 := by omega
  clear e0 hlo hhi h0 h1 h2 h3 h4 h5 h6 h7
  have e1 : IntKind.u64.wrap (IntKind.u64.wrap (hi : Int) * 2 ^ 32) = ((hi * 2 ^ 32 : Nat) : Int) := by simp only [IntKind.wrap_u64]; omega
  have e2 : IntKind.u64.wrap (lo : Int) = (lo : Int) := by simp only [IntKind.wrap_u64]; omega
  rw [e1, e2]
  congr 1
  show _ = IntKind.u64.wrap ((BitVec.ofInt 64 ((hi * 2 ^ 32 : Nat) : Int) ||| BitVec.ofInt 64 (lo : Int)).toNat : Int)
  rw [ofInt_nat, ofInt_nat, or_lo (by omega) (by omega) (by decide), IntKind.wrap_u64]
  omega
theorem lv1 (b0 : UInt8) : leI [b0] = (b0.toNat : Int) := by
  have h0 : b0.toNat < 256 := b0.toNat_lt
  rw [leI_eq]; simp only [leN, IntKind.wrap_i64]; omega
theorem lv2 (b0 b1 : UInt8) : leI [b0, b1] = ((b0.toNat + 256 * b1.toNat : Nat) : Int) := by
  have h0 : b0.toNat < 256 := b0.toNat_lt
  have h1 : b1.toNat < 256 := b1.toNat_lt
  rw [leI_eq]; simp only [leN, IntKind.wrap_i64]; omega
theorem lv21 (b0 : UInt8) : mloadV 21 [b0] = load8 21 (pad8 [b0]) := by
  simp only [mloadV, pad8_1, load8, loadV, lv1, if_true]
theorem lv22 (b0 : UInt8) : mloadV 22 [b0] = load8 22 (pad8 [b0]) := by
  have h0 : b0.toNat < 256 := b0.toNat_lt
  simp only [mloadV, pad8_1, load8, loadV, lv1]
  simp only [show ¬ ((22 : Int) = 21) by decide, show ¬ ((22 : Int) = 19) by decide, show ¬ ((22 : Int) = 23) by decide, if_false, if_true]
  rw [IntKind.wrap_i64]; omega
theorem lv23 (b0 b1 : UInt8) : mloadV 23 [b0, b1] = load8 23 (pad8 [b0, b1]) := by
  simp only [mloadV, pad8_2, load8, loadV, lv2, le16_eq]
  simp only [show ¬ ((23 : Int) = 21) by decide, show ¬ ((23 : Int) = 22) by decide, if_false, if_true]
theorem lv24 (b0 b1 : UInt8) : mloadV 24 [b0, b1] = load8 24 (pad8 [b0, b1]) := by
  have h0 : b0.toNat < 256 := b0.toNat_lt
  have h1 : b1.toNat < 256 := b1.toNat_lt
  simp only [mloadV, pad8_2, load8, loadV, lv2, le16_eq]
  simp only [show ¬ ((24 : Int) = 21) by decide, show ¬ ((24 : Int) = 22) by decide, show ¬ ((24 : Int) = 23) by decide, show ¬ ((24 : Int) = 19) by decide, if_false, if_true]
  rw [IntKind.wrap_i64]; omega
theorem mloadV_eq {op : Int} {l : List UInt8} (h0 : 19 ≤ op) (h1 : op ≤ 24) (hl : l.length = wid op) : mloadV op l = load8 op (pad8 l) := by
  rcases (show op = 19 ∨ op = 20 ∨ op = 21 ∨ op = 22 ∨ op = 23 ∨ op = 24 by omega) with e | e | e | e | e | e <;> subst e
  · have : l.length = 4 := hl
    match l, this with
    | [b0, b1, b2, b3], _ => exact lv19 b0 b1 b2 b3
  · have : l.length = 8 := hl
    match l, this with
    | [b0, b1, b2, b3, b4, b5, b6, b7], _ => exact lv20 b0 b1 b2 b3 b4 b5 b6 b7
  · have : l.length = 1 := hl
    match l, this with
    | [b0], _ => exact lv21 b0
  · have : l.length = 1 := hl
    match l, this with
    | [b0], _ => exact lv22 b0
  · have : l.length = 2 := hl
    match l, this with
    | [b0, b1], _ => exact lv23 b0 b1
  · have : l.length = 2 := hl
    match l, this with
    | [b0, b1], _ => exact lv24 b0 b1
def widM (op : Int) : Int := if op = 21 ∨ op = 22 ∨ op = 27 then 1 else if op = 23 ∨ op = 24 ∨ op = 28 then 2 else if op = 19 ∨ op = 25 then 4 else if op = 20 ∨ op = 26 then 8 else 0
def placeM (m : Mem) (addr off w : Int) : Int := if off < 0 ∨ 4294967295 < off then -1 else if (m.bytes.length : Int) < addr % 4294967296 + off + w then -1 else addr % 4294967296 + off
theorem widM_eq {op : Int} (h0 : 19 ≤ op) (h1 : op ≤ 28) : widM op = wid op := by
  rcases (show op = 19 ∨ op = 20 ∨ op = 21 ∨ op = 22 ∨ op = 23 ∨ op = 24 ∨ op = 25 ∨ op = 26 ∨ op = 27 ∨ op = 28 by omega) with e | e | e | e | e | e | e | e | e | e <;> subst e <;> rfl
theorem widM_rng (op : Int) : 0 ≤ widM op ∧ widM op ≤ 8 := by unfold widM; repeat' split <;> try omega
theorem widM_zero {op : Int} (h : widM op = 0) : op < 19 ∨ 28 < op := by
  unfold widM at h; repeat' split at h
  all_goals omega
def mmload (m : Mem) (op addr off : Int) : Int × Int :=
  if widM op = 0 ∨ 25 ≤ op then (0, 9) else if placeM m addr off (widM op) < 0 then (0, 12)
  else (mloadV op (rd m (placeM m addr off (widM op)).toNat (widM op).toNat), 0)
theorem mmload_eq (m : Mem) (op addr off : Int) : mmload m op addr off = mload m op addr off := by
  unfold mmload mload reach
  by_cases h : op < 19 ∨ 24 < op
  · rw [if_pos (by
      by_cases h2 : 25 ≤ op
      · exact .inr h2
      · left; unfold widM; rw [if_neg (by omega), if_neg (by omega), if_neg (by omega), if_neg (by omega)])]
    simp [h]
  · have hw : widM op = wid op := widM_eq (by omega) (by omega)
    have hw0 : widM op ≠ 0 := fun e => by have := widM_zero e; omega
    rw [if_neg (by omega), hw]
    simp only [if_neg h]
    by_cases hp : off < 0 ∨ 4294967295 < off ∨ (m.bytes.length : Int) < addr % 4294967296 + off + wid op
    · have : placeM m addr off (wid op) = -1 := by unfold placeM; split; rfl; rw [if_pos (by omega)]
      rw [this]; simp [hp]
    · have e : placeM m addr off (wid op) = addr % 4294967296 + off := by unfold placeM; rw [if_neg (by omega), if_neg (by omega)]
      rw [e, if_neg (by omega)]
      simp only [if_neg hp]
      rw [if_neg (by simp), Int.toNat_natCast, mloadV_eq (by omega) (by omega) (by simp [rd]; omega)]
def mmstore (m : Mem) (op addr off v : Int) : Mem × Int :=
  if widM op = 0 ∨ op < 25 then (m, 9) else if placeM m addr off (widM op) < 0 then (m, 12)
  else (wr m (placeM m addr off (widM op)).toNat ((bytes8 v).take (widM op).toNat), 0)
theorem mmstore_eq (m : Mem) (op addr off v : Int) : mmstore m op addr off v = mstore m op addr off v := by
  unfold mmstore mstore reach
  by_cases h : op < 25 ∨ 28 < op
  · rw [if_pos (by
      by_cases h2 : op < 25
      · exact .inr h2
      · left; unfold widM; rw [if_neg (by omega), if_neg (by omega), if_neg (by omega), if_neg (by omega)])]
    simp [h]
  · have hw : widM op = wid op := widM_eq (by omega) (by omega)
    have hw0 : widM op ≠ 0 := fun e => by have := widM_zero e; omega
    rw [if_neg (by omega), hw]
    simp only [if_neg h]
    by_cases hp : off < 0 ∨ 4294967295 < off ∨ (m.bytes.length : Int) < addr % 4294967296 + off + wid op
    · have : placeM m addr off (wid op) = -1 := by unfold placeM; split; rfl; rw [if_pos (by omega)]
      rw [this]; simp [hp]
    · have e : placeM m addr off (wid op) = addr % 4294967296 + off := by unfold placeM; rw [if_neg (by omega), if_neg (by omega)]
      rw [e, if_neg (by omega)]
      simp only [if_neg hp]
      rw [if_neg (by simp)]
end Go.Wl
