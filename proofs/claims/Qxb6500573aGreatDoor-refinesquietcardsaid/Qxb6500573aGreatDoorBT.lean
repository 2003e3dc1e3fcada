/- Plain: floating point: order, whole numbers, sums and powers of two. -/
import Derived.Test.Qxb6500573aGreatDoorBS
namespace Go.Wl
open Go Go.Sl Go.Proofs
set_option linter.unusedVariables false
/-- In units of the least number. -/
def vl (r : Nat) : Nat := mg r * 2 ^ (pl r + 1074).toNat
theorem pl_ge (r : Nat) : -1074 ≤ pl r := by unfold pl; split <;> omega
theorem pl_le {r : Nat} (h : r < 9218868437227405312) : pl r ≤ 971 := by
  unfold pl
  split
  · decide
  · have : r / 4503599627370496 ≤ 2046 := by omega
    omega
theorem mg_lt (r : Nat) : mg r < 9007199254740992 := by unfold mg; split <;> omega
theorem sgn_f (m k : Nat) : Ieee.signed false m k = ((m * 2 ^ k : Nat) : Int) := by
  unfold Ieee.signed
  rw [if_neg (by decide), shl_eq]
theorem cmp_mul (a b c : Nat) (hc : 0 < c) : compare (a : Int) (b : Int) = compare ((a * c : Nat) : Int) ((b * c : Nat) : Int) := by
  have key : ∀ x y : Nat, compare (x : Int) (y : Int) = if x < y then .lt else if x = y then .eq else .gt := fun x y => by
    show (if (x : Int) < (y : Int) then Ordering.lt else if (x : Int) = (y : Int) then .eq else .gt) = _
    by_cases h : x < y
    · rw [if_pos h, if_pos (by omega)]
    · rw [if_neg h, if_neg (by omega)]
      by_cases h2 : x = y
      · rw [if_pos h2, if_pos (by omega)]
      · rw [if_neg h2, if_neg (by omega)]
  rw [key, key]
  by_cases h : a < b
  · rw [if_pos h, if_pos (Nat.mul_lt_mul_of_pos_right h hc)]
  · have h' : ¬ a * c < b * c := Nat.not_lt.2 (Nat.mul_le_mul_right c (Nat.not_lt.1 h))
    rw [if_neg h, if_neg h']
    by_cases h2 : a = b
    · rw [if_pos h2, if_pos (by rw [h2])]
    · rw [if_neg h2, if_neg (fun e => h2 (Nat.eq_of_mul_eq_mul_right hc e))]
theorem ford_vl {r s : Nat} (hr : r < 9218868437227405312) (hs : s < 9218868437227405312) : ford r s = some (compare ((vl r : Nat) : Int) ((vl s : Nat) : Int)) := by
  show (FloatKind.f64.decode r).order (FloatKind.f64.decode s) = _
  rw [read_fin hr, read_fin hs]
  unfold Ieee.Datum.order
  dsimp only
  rw [sgn_f, sgn_f]
  congr 1
  have h1 := pl_ge r
  have h2 := pl_ge s
  rw [cmp_mul _ _ (2 ^ (min (pl r) (pl s) + 1074).toNat) (Nat.two_pow_pos _)]
  unfold vl
  rw [Nat.mul_assoc, Nat.mul_assoc, ← Nat.pow_add, ← Nat.pow_add]
  congr 3
  · congr 2; omega
  · congr 2; omega
theorem cmp_lt {a b : Nat} : compare (a : Int) (b : Int) = .lt ↔ a < b := by
  show (if (a : Int) < (b : Int) then Ordering.lt else if (a : Int) = (b : Int) then .eq else .gt) = .lt ↔ _
  by_cases h : a < b
  · rw [if_pos (by omega)]; exact ⟨fun _ => h, fun _ => rfl⟩
  · rw [if_neg (by omega)]
    split
    · exact ⟨fun z => (by cases z), fun z => absurd z h⟩
    · exact ⟨fun z => (by cases z), fun z => absurd z h⟩
theorem cmp_eq {a b : Nat} : compare (a : Int) (b : Int) = .eq ↔ a = b := by
  show (if (a : Int) < (b : Int) then Ordering.lt else if (a : Int) = (b : Int) then .eq else .gt) = .eq ↔ _
  by_cases h : a < b
  · rw [if_pos (by omega)]; exact ⟨fun z => (by cases z), fun z => by omega⟩
  · rw [if_neg (by omega)]
    by_cases h2 : a = b
    · rw [if_pos (by omega)]; exact ⟨fun _ => h2, fun _ => rfl⟩
    · rw [if_neg (by omega)]; exact ⟨fun z => (by cases z), fun z => absurd z h2⟩
theorem cmp_gt {a b : Nat} : compare (a : Int) (b : Int) = .gt ↔ b < a := by
  show (if (a : Int) < (b : Int) then Ordering.lt else if (a : Int) = (b : Int) then .eq else .gt) = .gt ↔ _
  by_cases h : a < b
  · rw [if_pos (by omega)]; exact ⟨fun z => (by cases z), fun z => by omega⟩
  · rw [if_neg (by omega)]
    by_cases h2 : a = b
    · rw [if_pos (by omega)]; exact ⟨fun z => (by cases z), fun z => by omega⟩
    · rw [if_neg (by omega)]; exact ⟨fun _ => by omega, fun _ => rfl⟩
theorem ford_self {r : Nat} (hr : r < 9218868437227405312) : ford r r = some .eq := by
  rw [ford_vl hr hr, cmp_eq.2 rfl]
theorem vl_max {r : Nat} (hr : r < 9218868437227405312) : vl r ≤ vl maxFin := by
  have e1 : mg maxFin = 9007199254740991 := by decide
  have e2 : pl maxFin = 971 := by decide
  unfold vl
  rw [e1, e2]
  have h1 := pl_le hr
  have h2 := pl_ge r
  refine Nat.mul_le_mul (by have := mg_lt r; omega) (Nat.pow_le_pow_right (by decide) (by omega))
/-- x + 0 -/
theorem add_zero_bits {x : Nat} (h : x < 9218868437227405312) : arithM 1 x 0 = some x := by
  unfold arithM
  rw [if_pos rfl]
  have e : FloatKind.f64.format.add x 0 = some x := by
    show ((FloatKind.f64.decode x).sum (FloatKind.f64.decode 0)).map Ieee.double.write = _
    rw [read_fin h, read_fin (r := 0) (by decide)]
    have e0 : mg 0 = 0 := by decide
    have e1 : pl 0 = -1074 := by decide
    rw [e0, e1]
    unfold Ieee.Datum.sum
    dsimp only
    have hp := pl_ge x
    have hm : min (pl x) (-1074) = -1074 := by omega
    rw [hm, sgn_f, sgn_f, Nat.zero_mul]
    have ht : ((mg x * 2 ^ (pl x - -1074).toNat : Nat) : Int) + ((0 : Nat) : Int) = ((mg x * 2 ^ (pl x - -1074).toNat : Nat) : Int) := by omega
    rw [ht, Int.natAbs_natCast]
    have hneg : (if ((mg x * 2 ^ (pl x - -1074).toNat : Nat) : Int) = 0 then (false && false) else decide (((mg x * 2 ^ (pl x - -1074).toNat : Nat) : Int) < 0)) = false := by
      split
      · rfl
      · exact decide_eq_false (by omega)
    rw [hneg]
    show some (Ieee.double.nearest false _ (-1074)) = some x
    rw [near_exact h 0 (pl x - -1074).toNat (by omega) (by rw [Nat.pow_zero, Nat.mul_one])]
  rw [e]
  show some (bitsM x) = _
  unfold bitsM
  rw [if_neg (by rw [ford_self h]; decide)]
theorem cmp_self {x : Nat} (h : x < 9218868437227405312) : cmpM 2 x x = false := by
  unfold cmpM
  rw [if_neg (by decide), if_pos rfl]
  exact decide_eq_false (by rw [ford_self h]; decide)
/-- The word of a whole number. -/
def rgN (n : Nat) : Nat := (n.log2 + 1022) * 4503599627370496 + n * 2 ^ (52 - n.log2)
theorem log_lt {n : Nat} (h0 : n ≠ 0) (h : n < 9007199254740992) : n.log2 ≤ 52 := by
  have : n.log2 < 53 := (Nat.log2_lt h0).2 h
  omega
theorem nrm {n : Nat} (h0 : n ≠ 0) (h : n < 9007199254740992) : 4503599627370496 ≤ n * 2 ^ (52 - n.log2) ∧ n * 2 ^ (52 - n.log2) < 9007199254740992 := by
  have hl := log_lt h0 h
  have e := log2_mul h0 (52 - n.log2)
  have hn : n * 2 ^ (52 - n.log2) ≠ 0 := Nat.mul_ne_zero h0 (Nat.pos_iff_ne_zero.1 (Nat.two_pow_pos _))
  have e2 : (n * 2 ^ (52 - n.log2)).log2 = 52 := by omega
  have b1 : 2 ^ 52 ≤ n * 2 ^ (52 - n.log2) := (Nat.le_log2 hn).1 (Nat.le_of_eq e2.symm)
  have b2 : n * 2 ^ (52 - n.log2) < 2 ^ 53 := (Nat.log2_lt hn).1 (by rw [e2]; decide)
  exact ⟨b1, b2⟩
theorem rgN_parts {n : Nat} (h0 : n ≠ 0) (h : n < 9007199254740992) : rgN n < 9218868437227405312 ∧ rgN n / 4503599627370496 = n.log2 + 1023 ∧ rgN n % 4503599627370496 = n * 2 ^ (52 - n.log2) - 4503599627370496 ∧ mg (rgN n) = n * 2 ^ (52 - n.log2) ∧ pl (rgN n) = (n.log2 : Int) - 52 := by
  have hl := log_lt h0 h
  obtain ⟨h1, h2⟩ := nrm h0 h
  generalize hM : n * 2 ^ (52 - n.log2) = M at h1 h2
  have e : rgN n = (n.log2 + 1022) * 4503599627370496 + M := by unfold rgN; rw [hM]
  have a1 : rgN n < 9218868437227405312 := by rw [e]; omega
  have a2 : rgN n / 4503599627370496 = n.log2 + 1023 := by rw [e]; omega
  have a3 : rgN n % 4503599627370496 = M - 4503599627370496 := by rw [e]; omega
  have a4 : ¬ rgN n < 4503599627370496 := by rw [e]; omega
  refine ⟨a1, a2, a3, ?_, ?_⟩
  · unfold mg
    rw [if_neg a4, a3]
    omega
  · unfold pl
    rw [if_neg a4, a2]
    omega
theorem near_nat {n : Nat} (h0 : n ≠ 0) (h : n < 9007199254740992) : FloatKind.f64.nearest (n : Int) = rgN n := by
  obtain ⟨a1, a2, a3, a4, a5⟩ := rgN_parts h0 h
  have hl := log_lt h0 h
  show Ieee.double.nearest (decide ((n : Int) < 0)) (n : Int).natAbs 0 = _
  rw [decide_eq_false (by omega), Int.natAbs_natCast]
  exact near_exact a1 (52 - n.log2) 0 (by rw [a5]; omega) (by rw [a4, Nat.pow_zero, Nat.mul_one])
theorem vl_rgN {n : Nat} (h0 : n ≠ 0) (h : n < 9007199254740992) : vl (rgN n) = n * 2 ^ 1074 := by
  obtain ⟨a1, a2, a3, a4, a5⟩ := rgN_parts h0 h
  have hl := log_lt h0 h
  unfold vl
  rw [a4, a5, Nat.mul_assoc, ← Nat.pow_add]
  congr 2
  omega
/-- The value is the whole number n: the word of n is it. -/
theorem near_of_vl {x n : Nat} (h : x < 9218868437227405312) (hv : vl x = n * 2 ^ 1074) : FloatKind.f64.nearest (n : Int) = x := by
  show Ieee.double.nearest (decide ((n : Int) < 0)) (n : Int).natAbs 0 = _
  rw [decide_eq_false (by omega), Int.natAbs_natCast]
  have hp := pl_ge x
  exact near_exact h 1074 (pl x + 1074).toNat (by omega) hv.symm
end Go.Wl
