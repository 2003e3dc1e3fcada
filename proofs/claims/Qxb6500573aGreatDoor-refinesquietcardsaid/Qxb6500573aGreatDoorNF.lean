/- Plain: numm's rounding: pack is the nearest word. -/
import Ieee.Arith
namespace Go.Nm
open Ieee
set_option linter.unusedVariables false
set_option linter.unusedSimpArgs false
/-- n / 2 ^ d, to the nearest, ties to even. -/
def rn (n d : Nat) : Nat := n / 2 ^ d + (if 2 ^ d < 2 * (n % 2 ^ d) ∨ 2 ^ d = 2 * (n % 2 ^ d) ∧ n / 2 ^ d % 2 = 1 then 1 else 0)
theorem pow_split {a b : Nat} (h : a ≤ b) : 2 ^ b = 2 ^ a * 2 ^ (b - a) := by rw [← Nat.pow_add, Nat.add_sub_cancel' h]
theorem rn_big {n d : Nat} (h : 2 * n < 2 ^ d) : rn n d = 0 := by
  unfold rn
  rw [Nat.div_eq_of_lt (by omega), Nat.mod_eq_of_lt (by omega), if_neg (by omega)]
theorem cut_rn (s : Bool) (n d : Nat) : Toward.even.cut s n d = rn n d := by
  unfold Toward.cut
  dsimp only
  rw [Nat.shiftLeft_eq, Nat.one_mul]
  by_cases h : d ≤ n.log2 + 2
  · rw [Nat.min_eq_left h]
    unfold rn
    congr 1
    by_cases c1 : 2 ^ d < 2 * (n % 2 ^ d)
    · simp [c1]
    · by_cases c2 : 2 ^ d = 2 * (n % 2 ^ d)
      · by_cases c3 : n / 2 ^ d % 2 = 1
        · rw [if_pos (Or.inr ⟨c2, c3⟩), show (decide (2 ^ d < 2 * (n % 2 ^ d)) || (2 ^ d == 2 * (n % 2 ^ d) && n / 2 ^ d % 2 == 1)) = true by simp [c3]; exact Or.inr c2]; rfl
        · rw [if_neg (fun q => q.elim c1 (fun q => c3 q.2)), show (decide (2 ^ d < 2 * (n % 2 ^ d)) || (2 ^ d == 2 * (n % 2 ^ d) && n / 2 ^ d % 2 == 1)) = false by rw [decide_eq_false c1]; simp [c3]]; rfl
      · rw [if_neg (fun q => q.elim c1 (fun q => c2 q.1)), show (decide (2 ^ d < 2 * (n % 2 ^ d)) || (2 ^ d == 2 * (n % 2 ^ d) && n / 2 ^ d % 2 == 1)) = false by rw [decide_eq_false c1]; simp [c2]]; rfl
  · rw [Nat.min_eq_right (by omega)]
    have h1 : n < 2 ^ (n.log2 + 1) := Nat.lt_log2_self
    have h2 : 2 ^ (n.log2 + 2) = 2 * 2 ^ (n.log2 + 1) := by rw [Nat.pow_succ 2 (n.log2 + 1), Nat.mul_comm]
    have h3 : 2 ^ (n.log2 + 2) ≤ 2 ^ d := Nat.pow_le_pow_right (by decide) (by omega)
    rw [rn_big (by omega), Nat.div_eq_of_lt (by omega), Nat.mod_eq_of_lt (by omega)]
    have c1 : ¬ 2 ^ (n.log2 + 2) < 2 * n := by omega
    have c2 : ¬ 2 ^ (n.log2 + 2) = 2 * n := by omega
    simp [c1, c2]
theorem rn_shift (n d j : Nat) : rn (n * 2 ^ j) (d + j) = rn n d := by
  have hp : 0 < 2 ^ j := Nat.two_pow_pos j
  unfold rn
  have e1 : n * 2 ^ j / 2 ^ (d + j) = n / 2 ^ d := by rw [Nat.pow_add, Nat.mul_div_mul_right _ _ hp]
  have e2 : n * 2 ^ j % 2 ^ (d + j) = n % 2 ^ d * 2 ^ j := by rw [Nat.pow_add, Nat.mul_mod_mul_right]
  rw [e1, e2]
  congr 1
  have e3 : 2 ^ (d + j) < 2 * (n % 2 ^ d * 2 ^ j) ↔ 2 ^ d < 2 * (n % 2 ^ d) := by
    rw [Nat.pow_add, ← Nat.mul_assoc]; exact Nat.mul_lt_mul_right hp
  have e4 : 2 ^ (d + j) = 2 * (n % 2 ^ d * 2 ^ j) ↔ 2 ^ d = 2 * (n % 2 ^ d) := by
    rw [Nat.pow_add, ← Nat.mul_assoc]; exact Nat.mul_left_inj (Nat.ne_of_gt hp)
  simp only [e3, e4]
/-- With something left over. -/
theorem rn_sticky {m k e d : Nat} (hd : 1 ≤ d) (he0 : 0 < e) (he : e < 2 ^ k) : rn (m * 2 ^ k + e) (d + k) = m / 2 ^ d + (if 2 ^ (d - 1) ≤ m % 2 ^ d then 1 else 0) := by
  have hp : 0 < 2 ^ k := Nat.two_pow_pos k
  have hd2 : 2 ^ d = 2 * 2 ^ (d - 1) := by rw [← Nat.pow_succ']; congr 1; omega
  unfold rn
  have e1 : (m * 2 ^ k + e) / 2 ^ (d + k) = m / 2 ^ d := by
    rw [Nat.add_comm d k, Nat.pow_add, ← Nat.div_div_eq_div_mul, Nat.add_comm, Nat.add_mul_div_right _ _ hp, Nat.div_eq_of_lt he, Nat.zero_add]
  have e2 : (m * 2 ^ k + e) % 2 ^ (d + k) = m % 2 ^ d * 2 ^ k + e := by
    have h1 := Nat.div_add_mod (m * 2 ^ k + e) (2 ^ (d + k))
    rw [e1] at h1
    have h2 := Nat.div_add_mod m (2 ^ d)
    have h3 : m * 2 ^ k = 2 ^ (d + k) * (m / 2 ^ d) + m % 2 ^ d * 2 ^ k := by
      conv => lhs; rw [← h2]
      rw [Nat.add_mul, Nat.pow_add, Nat.mul_assoc, Nat.mul_assoc, Nat.mul_comm (m / 2 ^ d)]
    omega
  rw [e1, e2]
  congr 1
  generalize m % 2 ^ d = r
  generalize m / 2 ^ d = q
  have e3 : 2 ^ (d + k) = 2 * (2 ^ (d - 1) * 2 ^ k) := by rw [Nat.pow_add, hd2, Nat.mul_assoc]
  rw [e3]
  by_cases c : 2 ^ (d - 1) ≤ r
  · have := Nat.mul_le_mul_right (2 ^ k) c
    rw [if_pos c, if_pos (Or.inl (by omega))]
  · have h4 : (r + 1) * 2 ^ k ≤ 2 ^ (d - 1) * 2 ^ k := Nat.mul_le_mul_right _ (by omega)
    rw [Nat.add_mul, Nat.one_mul] at h4
    rw [if_neg c, if_neg (by omega)]
theorem log2_shift {m : Nat} (k : Nat) (h : m ≠ 0) {e : Nat} (he : e < 2 ^ k) : (m * 2 ^ k + e).log2 = m.log2 + k := by
  have hp : 0 < 2 ^ k := Nat.two_pow_pos k
  have h1 : 2 ^ m.log2 ≤ m := Nat.log2_self_le h
  have h2 : m < 2 ^ (m.log2 + 1) := Nat.lt_log2_self
  have h0 : m * 2 ^ k + e ≠ 0 := by have := Nat.mul_pos (Nat.pos_of_ne_zero h) hp; omega
  have l1 : m.log2 + k ≤ (m * 2 ^ k + e).log2 := by
    rw [Nat.le_log2 h0, Nat.pow_add]
    have := Nat.mul_le_mul_right (2 ^ k) h1
    omega
  have l2 : (m * 2 ^ k + e).log2 < m.log2 + k + 1 := by
    rw [Nat.log2_lt h0]
    have h3 : (m + 1) * 2 ^ k ≤ 2 ^ (m.log2 + 1) * 2 ^ k := Nat.mul_le_mul_right _ h2
    rw [← Nat.pow_add, Nat.add_mul, Nat.one_mul] at h3
    rw [show m.log2 + k + 1 = m.log2 + 1 + k by omega]
    omega
  omega
theorem log2_mul {m : Nat} (k : Nat) (h : m ≠ 0) : (m * 2 ^ k).log2 = m.log2 + k := by
  have := log2_shift k h (e := 0) (Nat.two_pow_pos k)
  simpa using this
/-- The last place that is kept. -/
def lst (top : Int) : Int := max (top - 52) (-1074)
def infB : Nat := 9218868437227405312
def sgB (s : Bool) : Nat := if s then 9223372036854775808 else 0
theorem word_eq (s : Bool) (r : Nat) : double.word s r = sgB s + r := by
  unfold Format.word sgB
  cases s
  · simp
  · rfl
theorem near_eq (s : Bool) {m : Nat} (h : m ≠ 0) (p : Int) : double.nearest s m p = sgB s + min ((lst (p + m.log2) + 1074).toNat * 4503599627370496 + rn (m * 2 ^ (p - lst (p + m.log2)).toNat) (lst (p + m.log2) - p).toNat) infB := by
  unfold Format.nearest
  rw [if_neg h]
  dsimp only
  rw [word_eq, cut_rn, Nat.shiftLeft_eq]
  rfl
theorem near_zero (s : Bool) (p : Int) : double.nearest s 0 p = sgB s := by
  unfold Format.nearest
  rw [if_pos rfl, word_eq]; rfl
/-- Scaling. -/
theorem near_shift (s : Bool) (m j : Nat) (p q : Int) (hq : q = p - j) : double.nearest s (m * 2 ^ j) q = double.nearest s m p := by
  subst hq
  by_cases h : m = 0
  · subst h; rw [Nat.zero_mul, near_zero, near_zero]
  · have h0 : m * 2 ^ j ≠ 0 := Nat.ne_of_gt (Nat.mul_pos (Nat.pos_of_ne_zero h) (Nat.two_pow_pos j))
    rw [near_eq s h0, near_eq s h, log2_mul j h]
    rw [show (p - (j : Int) + ((m.log2 + j : Nat) : Int)) = p + m.log2 by omega]
    generalize lst (p + m.log2) = L
    congr 2
    congr 1
    by_cases c : L ≤ p - j
    · rw [show (L - (p - (j : Int))).toNat = 0 by omega, show (L - p).toNat = 0 by omega, Nat.mul_assoc, ← Nat.pow_add, show j + (p - (j : Int) - L).toNat = (p - L).toNat by omega]
    · rw [show (p - (j : Int) - L).toNat = 0 by omega, Nat.pow_zero, Nat.mul_one]
      by_cases c2 : L ≤ p
      · rw [show (L - p).toNat = 0 by omega, show j = (p - L).toNat + (L - (p - (j : Int))).toNat by omega, Nat.pow_add, ← Nat.mul_assoc]
        have := rn_shift (m * 2 ^ (p - L).toNat) 0 (L - (p - (j : Int))).toNat
        rw [Nat.zero_add] at this
        rw [show (L - (p - (((p - L).toNat + (L - (p - (j : Int))).toNat : Nat) : Int))).toNat = (L - (p - (j : Int))).toNat by omega]
        exact this
      · rw [show (L - (p - (j : Int))).toNat = (L - p).toNat + j by omega, rn_shift, show (p - L).toNat = 0 by omega, Nat.pow_zero, Nat.mul_one]
/-- Is it rounded up? -/
def upS (m D : Nat) (st : Bool) : Bool := if m % 2 ^ D = 2 ^ (D - 1) then st || m / 2 ^ D % 2 == 1 else decide (2 ^ (D - 1) < m % 2 ^ D)
def rnS (m D : Nat) (st : Bool) : Nat := if upS m D st = true then m / 2 ^ D + 1 else m / 2 ^ D
theorem half {D : Nat} (h : 1 ≤ D) : 2 ^ D = 2 * 2 ^ (D - 1) := by rw [← Nat.pow_succ']; congr 1; omega
theorem rnS_false {m D : Nat} (h : 1 ≤ D) : rnS m D false = rn m D := by
  unfold rnS upS rn
  rw [half h]
  generalize 2 ^ (D - 1) = H
  generalize m % (2 * H) = r
  generalize m / (2 * H) = q
  by_cases c : r = H
  · rw [if_pos c]
    by_cases c2 : q % 2 = 1
    · rw [if_pos (by simp [c2]), if_pos (Or.inr ⟨by omega, c2⟩)]
    · rw [if_neg (by simp [c2]), if_neg (fun h => h.elim (by omega) (fun h => c2 h.2))]; rfl
  · rw [if_neg c]
    by_cases c2 : H < r
    · rw [if_pos (by simp [c2]), if_pos (Or.inl (by omega))]
    · rw [if_neg (by simp [c2]), if_neg (fun h => h.elim (by omega) (fun h => by omega))]; rfl
theorem rnS_true {m D : Nat} (h : 1 ≤ D) : rnS m D true = m / 2 ^ D + (if 2 ^ (D - 1) ≤ m % 2 ^ D then 1 else 0) := by
  unfold rnS upS
  generalize 2 ^ (D - 1) = H
  generalize m % (2 ^ D) = r
  generalize m / (2 ^ D) = q
  by_cases c : r = H
  · rw [if_pos c, if_pos (by simp), if_pos (by omega)]
  · rw [if_neg c]
    by_cases c2 : H < r
    · rw [if_pos (by simp [c2]), if_pos (by omega)]
    · rw [if_neg (by simp [c2]), if_neg (by omega)]; rfl
theorem rnS_shift {m D j : Nat} (h : 1 ≤ D) (st : Bool) : rnS (m * 2 ^ j) (D + j) st = rnS m D st := by
  have hp : 0 < 2 ^ j := Nat.two_pow_pos j
  have e1 : m * 2 ^ j / 2 ^ (D + j) = m / 2 ^ D := by rw [Nat.pow_add, Nat.mul_div_mul_right _ _ hp]
  have e2 : m * 2 ^ j % 2 ^ (D + j) = m % 2 ^ D * 2 ^ j := by rw [Nat.pow_add, Nat.mul_mod_mul_right]
  cases st with
  | false => rw [rnS_false h, rnS_false (by omega), rn_shift]
  | true =>
    rw [rnS_true h, rnS_true (by omega), e1, e2, show D + j - 1 = D - 1 + j by omega, Nat.pow_add]
    congr 1
    by_cases c : 2 ^ (D - 1) ≤ m % 2 ^ D
    · rw [if_pos c, if_pos (Nat.mul_le_mul_right _ c)]
    · rw [if_neg c, if_neg (fun q => c (Nat.le_of_mul_le_mul_right q hp))]
/-- numm's pack. -/
def drpP (top : Int) : Nat := if top < -1022 then 11 + (-1022 - top).toNat else 11
def pkM (s : Bool) (man : Nat) (ex : Int) (st : Bool) : Nat :=
  if man = 0 then sgB s
  else if 1023 < ex + man.log2 then sgB s + infB
  else if 64 < drpP (ex + man.log2) then sgB s
  else if infB ≤ (if ex + man.log2 < -1022 then rnS (man * 2 ^ (63 - man.log2)) (drpP (ex + man.log2)) st else (ex + man.log2 + 1022).toNat * 4503599627370496 + rnS (man * 2 ^ (63 - man.log2)) (drpP (ex + man.log2)) st) then sgB s + infB
  else sgB s + (if ex + man.log2 < -1022 then rnS (man * 2 ^ (63 - man.log2)) (drpP (ex + man.log2)) st else (ex + man.log2 + 1022).toNat * 4503599627370496 + rnS (man * 2 ^ (63 - man.log2)) (drpP (ex + man.log2)) st)
theorem drp_lst (top : Int) : (lst top - (top - 63)).toNat = drpP top ∧ 11 ≤ drpP top ∧ (lst top - (top - 63)) = drpP top := by unfold drpP lst; split <;> omega
theorem nrm_ge {man : Nat} (h0 : man ≠ 0) (h64 : man.log2 ≤ 63) : 9223372036854775808 ≤ man * 2 ^ (63 - man.log2) := by
  have := Nat.mul_le_mul_right (2 ^ (63 - man.log2)) (Nat.log2_self_le h0)
  rw [← Nat.pow_add, show man.log2 + (63 - man.log2) = 63 by omega] at this
  exact this
theorem nrm_lt {man : Nat} (h64 : man.log2 ≤ 63) : man * 2 ^ (63 - man.log2) < 18446744073709551616 := by
  have := Nat.mul_lt_mul_of_pos_right (k := 2 ^ (63 - man.log2)) (Nat.lt_log2_self (n := man)) (Nat.two_pow_pos _)
  rw [← Nat.pow_add, show man.log2 + 1 + (63 - man.log2) = 64 by omega] at this
  exact this
theorem rnS_big {m D : Nat} (h : m < 2 ^ (D - 1)) (hD : 1 ≤ D) (st : Bool) : rnS m D st = 0 := by
  have h2 := half hD
  unfold rnS upS
  rw [Nat.mod_eq_of_lt (show m < 2 ^ D by omega), Nat.div_eq_of_lt (show m < 2 ^ D by omega)]
  have c1 : ¬ m = 2 ^ (D - 1) := by omega
  have c2 : ¬ 2 ^ (D - 1) < m := by omega
  rw [if_neg c1, if_neg (by simp; omega)]
theorem rnS_ge (m D : Nat) (st : Bool) : m / 2 ^ D ≤ rnS m D st := by unfold rnS; split <;> omega
theorem pack_core {s : Bool} {man : Nat} (h0 : man ≠ 0) (h64 : man.log2 ≤ 63) (ex : Int) (st : Bool) : pkM s man ex st =
    sgB s + min ((lst (ex + man.log2) + 1074).toNat * 4503599627370496 + rnS (man * 2 ^ (63 - man.log2)) (drpP (ex + man.log2)) st) infB := by
  have hm1 := nrm_ge h0 h64
  have hm2 := nrm_lt h64
  unfold pkM
  rw [if_neg h0]
  generalize man * 2 ^ (63 - man.log2) = m at *
  generalize ex + (man.log2 : Int) = top
  by_cases c : 1023 < top
  · rw [if_pos c, show drpP top = 11 by unfold drpP; rw [if_neg (by omega)]]
    have h1 : (lst top + 1074).toNat ≥ 2046 := by unfold lst; omega
    have h2 : 4503599627370496 ≤ m / 2 ^ 11 := by rw [Nat.le_div_iff_mul_le (by decide)]; exact hm1
    have h3 := rnS_ge m 11 st
    rw [Nat.min_eq_right]
    unfold infB
    omega
  · rw [if_neg c]
    by_cases c2 : 64 < drpP top
    · have h1 : lst top = -1074 := by unfold lst drpP at *; split at c2 <;> omega
      have h2 : 18446744073709551616 ≤ 2 ^ (drpP top - 1) := by
        have : 2 ^ 64 ≤ 2 ^ (drpP top - 1) := Nat.pow_le_pow_right (by decide) (by omega)
        exact this
      rw [if_pos c2, h1, rnS_big (by omega) (by omega)]; simp
    · rw [if_neg c2]
      generalize rnS m (drpP top) st = r
      by_cases c3 : top < -1022
      · have h1 : lst top = -1074 := by unfold lst; omega
        rw [if_pos c3, h1]
        by_cases c4 : infB ≤ r
        · rw [if_pos c4, Nat.min_eq_right (by omega)]
        · rw [if_neg c4, Nat.min_eq_left (by omega)]; omega
      · have h1 : (lst top + 1074).toNat = (top + 1022).toNat := by unfold lst; omega
        rw [if_neg c3, h1]
        by_cases c4 : infB ≤ (top + 1022).toNat * 4503599627370496 + r
        · rw [if_pos c4, Nat.min_eq_right c4]
        · rw [if_neg c4, Nat.min_eq_left (by omega)]
theorem log2_lt64 {m : Nat} (h : m < 18446744073709551616) : m.log2 ≤ 63 := by
  by_cases h0 : m = 0
  · subst h0; decide
  · have : m.log2 < 64 := (Nat.log2_lt h0).2 (by simpa using h)
    omega
/-- Nothing left over: the nearest word. -/
theorem pack_exact (s : Bool) {man : Nat} (h : man < 18446744073709551616) (ex : Int) : pkM s man ex false = double.nearest s man ex := by
  by_cases h0 : man = 0
  · subst h0; rw [near_zero]; unfold pkM; rw [if_pos rfl]
  · have h64 := log2_lt64 h
    have hm0 : man * 2 ^ (63 - man.log2) ≠ 0 := by have := nrm_ge h0 h64; omega
    rw [pack_core h0 h64, ← near_shift s man (63 - man.log2) ex _ rfl, near_eq s hm0, log2_mul _ h0]
    rw [show ex - ((63 - man.log2 : Nat) : Int) + ((man.log2 + (63 - man.log2) : Nat) : Int) = ex + man.log2 by omega, show ex - ((63 - man.log2 : Nat) : Int) = ex + man.log2 - 63 by omega]
    have hd := drp_lst (ex + man.log2)
    rw [hd.1, rnS_false (by omega), show (ex + (man.log2 : Int) - 63 - lst (ex + man.log2)).toNat = 0 by omega, Nat.pow_zero, Nat.mul_one]
/-- Something left over. -/
theorem pack_sticky (s : Bool) {man k e : Nat} (h : man < 18446744073709551616) (hm : 9007199254740992 ≤ man) (he0 : 0 < e) (he : e < 2 ^ k) (ex p : Int) (hp : p = ex - k) : pkM s man ex true = double.nearest s (man * 2 ^ k + e) p := by
  subst hp
  have h0 : man ≠ 0 := by omega
  have h64 := log2_lt64 h
  have hl : 53 ≤ man.log2 := by rw [Nat.le_log2 h0]; exact hm
  have hd := drp_lst (ex + man.log2)
  rw [pack_core h0 h64, near_eq s (by omega), log2_shift k h0 he, show ex - (k : Int) + ((man.log2 + k : Nat) : Int) = ex + man.log2 by omega]
  obtain ⟨D, hD, hD1⟩ : ∃ D, drpP (ex + man.log2) = D + (63 - man.log2) ∧ 1 ≤ D := ⟨drpP (ex + man.log2) - (63 - man.log2), by omega, by omega⟩
  rw [hD, rnS_shift hD1, rnS_true hD1, show (ex - (k : Int) - lst (ex + man.log2)).toNat = 0 by omega, Nat.pow_zero, Nat.mul_one, show (lst (ex + man.log2) - (ex - (k : Int))).toNat = D + k by omega, rn_sticky hD1 he0 he]
end Go.Nm
