/- Plain: numm's mul, div, floor are IEEE's. -/
import Derived.Test.Qxb6500573aGreatDoorNG
namespace Go.Nm
open Ieee
set_option linter.unusedVariables false
set_option linter.unusedSimpArgs false
/-- Rounded once, something left over or not. -/
theorem pack_any (s : Bool) {man k r : Nat} (h : man < 18446744073709551616) (hm : r ≠ 0 → 9007199254740992 ≤ man) (hr : r < 2 ^ k) (ex p : Int) (hp : p = ex - k) : pkM s man ex (decide (r ≠ 0)) = double.nearest s (man * 2 ^ k + r) p := by
  by_cases hr0 : r = 0
  · subst hr0
    rw [show decide ((0 : Nat) ≠ 0) = false from rfl, pack_exact _ h, Nat.add_zero, near_shift _ _ _ _ _ hp]
  · rw [show decide (r ≠ 0) = true from decide_eq_true hr0, pack_sticky s h (hm hr0) (by omega) hr ex p hp]
def mulW (a b : Nat) : Nat :=
  if isNaNW a ∨ isNaNW b then nanW
  else if isInfW a ∨ isInfW b then (if isZW a ∨ isZW b then nanW else sgB (sgW a ^^ sgW b) + infB)
  else if isZW a ∨ isZW b then sgB (sgW a ^^ sgW b)
  else pkM (sgW a ^^ sgW b) (pM a * pM b / 2 ^ ((pM a * pM b).log2 - 63)) (pE a + pE b + (((pM a * pM b).log2 - 63 : Nat) : Int)) (decide (pM a * pM b % 2 ^ ((pM a * pM b).log2 - 63) ≠ 0))
theorem zerP {x : Nat} (h : isZW x) : pM x = 0 ∧ pE x = -1074 := by
  unfold isZW mgW at h; unfold pM pE; rw [if_pos (by omega), if_pos (by omega)]; exact ⟨by omega, rfl⟩
theorem fin_of {x : Nat} (h1 : ¬ isNaNW x) (h2 : ¬ isInfW x) : mgW x < infB := by unfold isInfW isNaNW at *; omega
theorem z_fin {x : Nat} (h : isZW x) : mgW x < infB := by unfold isZW at h; rw [h]; decide
theorem inf_w (s : Bool) : double.write (.infinity s) = sgB s + infB := by show double.word s double.infRung = _; rw [word_eq]; rfl
theorem product_comm' (d e : Datum) : d.product e = e.product d := by
  cases d <;> cases e <;> simp only [Datum.product]
  · rename_i s m i t n j
    rw [Nat.mul_comm, Int.add_comm, Bool.xor_comm]
  · rename_i s t; rw [Bool.xor_comm]
theorem mulW_ok {a b : Nat} (ha : a < 18446744073709551616) (hb : b < 18446744073709551616) : mulW a b = (double.mul a b).getD nanW := by
  unfold mulW Format.mul
  by_cases n1 : isNaNW a ∨ isNaNW b
  · rw [if_pos n1]
    rcases n1 with n1 | n1
    · obtain ⟨f, e⟩ := read_nan n1; rw [e]; simp [Datum.product]
    · obtain ⟨f, e⟩ := read_nan n1; rw [product_comm', e]; simp [Datum.product]
  · rw [if_neg n1]
    have na : ¬ isNaNW a := fun q => n1 (Or.inl q)
    have nb : ¬ isNaNW b := fun q => n1 (Or.inr q)
    have one : ∀ x y, ¬ isNaNW y → isInfW x → ((double.read x).product (double.read y)).map double.write = if isZW y then none else some (sgB (sgW x ^^ sgW y) + infB) := by
      intro x y ny ix
      rw [read_inf ix]
      by_cases iy : isInfW y
      · have : ¬ isZW y := fun q => by unfold isZW at q; unfold isInfW at iy; rw [q] at iy; exact absurd iy (by decide)
        rw [read_inf iy, if_neg this]
        simp only [Datum.product, Option.map_some]
        rw [inf_w]
      · have hy := fin_of ny iy
        rw [read_fin hy]
        simp only [Datum.product]
        by_cases zy : isZW y
        · rw [if_pos (zerP zy).1, if_pos zy]; rfl
        · rw [if_neg (Nat.ne_of_gt (pM_pos zy hy)), if_neg zy, Option.map_some, inf_w]
    by_cases i : isInfW a ∨ isInfW b
    · rw [if_pos i]
      have noz : ∀ x, isInfW x → ¬ isZW x := fun x hx q => by unfold isZW at q; unfold isInfW at hx; rw [q] at hx; exact absurd hx (by decide)
      rcases i with i | i
      · rw [one a b nb i]
        by_cases zb : isZW b
        · rw [if_pos (Or.inr zb), if_pos zb]; rfl
        · rw [if_neg (fun q => q.elim (noz a i) zb), if_neg zb]; rfl
      · rw [product_comm', one b a na i]
        by_cases za : isZW a
        · rw [if_pos (Or.inl za), if_pos za]; rfl
        · rw [if_neg (fun q => q.elim za (noz b i)), if_neg za, Bool.xor_comm]; rfl
    · rw [if_neg i]
      have fa := fin_of na (fun q => i (Or.inl q))
      have fb := fin_of nb (fun q => i (Or.inr q))
      rw [read_fin fa, read_fin fb]
      simp only [Datum.product, Option.map_some, Option.getD_some]
      show _ = double.nearest _ _ _
      by_cases z : isZW a ∨ isZW b
      · rw [if_pos z, show pM a * pM b = 0 by rcases z with z | z <;> rw [(zerP z).1] <;> simp, near_zero]
      · rw [if_neg z]
        have pa := pM_pos (fun q => z (Or.inl q)) fa
        have pb := pM_pos (fun q => z (Or.inr q)) fb
        have hP : pM a * pM b < 2 ^ 106 := by
          have h1 := Nat.mul_le_mul (Nat.le_of_lt (pM_lt a)) (Nat.le_of_lt (pM_lt b))
          have h2 : pM a * pM b < pM a * 9007199254740992 := Nat.mul_lt_mul_of_pos_left (pM_lt b) pa
          have h3 : pM a * 9007199254740992 ≤ 9007199254740992 * 9007199254740992 := Nat.mul_le_mul_right _ (Nat.le_of_lt (pM_lt a))
          exact Nat.lt_of_lt_of_le h2 (Nat.le_trans h3 (by decide))
        have hP0 : pM a * pM b ≠ 0 := Nat.ne_of_gt (Nat.mul_pos pa pb)
        generalize pM a * pM b = P at *
        have hmod := Nat.mod_lt P (Nat.two_pow_pos (P.log2 - 63))
        have hdm := Nat.div_add_mod P (2 ^ (P.log2 - 63))
        rw [Nat.mul_comm] at hdm
        have hup : P / 2 ^ (P.log2 - 63) < 18446744073709551616 := by
          rw [Nat.div_lt_iff_lt_mul (Nat.two_pow_pos _)]
          refine Nat.lt_of_lt_of_le Nat.lt_log2_self ?_
          show _ ≤ 2 ^ 64 * _
          rw [← Nat.pow_add]
          exact Nat.pow_le_pow_right (by decide) (by omega)
        rw [pack_any _ hup ?_ hmod _ (pE a + pE b) (by omega), hdm]
        intro hr
        have hk : 63 < P.log2 := by
          refine Decidable.byContradiction fun q => hr ?_
          rw [show P.log2 - 63 = 0 by omega, Nat.pow_zero, Nat.mod_one]
        rw [Nat.le_div_iff_mul_le (Nat.two_pow_pos _)]
        refine Nat.le_trans ?_ (Nat.log2_self_le hP0)
        show 2 ^ 53 * _ ≤ _
        rw [← Nat.pow_add]
        exact Nat.pow_le_pow_right (by decide) (by omega)
/-- A significand brought to 53 bits. -/
def nM (m : Nat) : Nat := m * 2 ^ (52 - m.log2)
def nE (m : Nat) (e : Int) : Int := e - (52 - m.log2 : Nat)
def divW (a b : Nat) : Nat :=
  if isNaNW a ∨ isNaNW b then nanW
  else if isInfW a then (if isInfW b then nanW else sgB (sgW a ^^ sgW b) + infB)
  else if isInfW b then sgB (sgW a ^^ sgW b)
  else if isZW b then (if isZW a then nanW else sgB (sgW a ^^ sgW b) + infB)
  else if isZW a then sgB (sgW a ^^ sgW b)
  else pkM (sgW a ^^ sgW b) (nM (pM a) * 2 ^ 62 / nM (pM b)) (nE (pM a) (pE a) - nE (pM b) (pE b) - 62) (decide (nM (pM a) * 2 ^ 62 % nM (pM b) ≠ 0))
theorem div_tail (s : Bool) {A R C U n w : Nat} (i j : Int) (hnp : 0 < n) (hA1 : 9007199254740992 ≤ A) (hA2 : A < 2 ^ 55) (hc : C < 2 ^ 8) (hdm : n * C + U = R * 2 ^ 8) :
    pkM s (A * 2 ^ 8 + C) (i - j - w - 8) (decide (U ≠ 0)) = double.nearest s (2 * A + (R != 0).toNat) (i - j - (w : Int) - 1) := by
  by_cases hR : R = 0
  · subst hR
    rw [Nat.zero_mul] at hdm
    have hC0 : C = 0 := by
      rcases Nat.eq_zero_or_pos C with h | h
      · exact h
      · have := Nat.mul_pos hnp h; omega
    have hU0 : U = 0 := by omega
    subst hC0 hU0
    rw [show decide ((0 : Nat) ≠ 0) = false from rfl, pack_exact _ (by omega), Nat.add_zero, near_shift _ _ 8 (i - j - w) _ (by omega)]
    rw [show (0 != 0) = false from rfl, show Bool.toNat false = 0 from rfl, Nat.add_zero, Nat.mul_comm 2 A]
    have := near_shift s A 1 (i - j - w) (i - j - w - 1) (by omega)
    rw [Nat.pow_one] at this
    exact this.symm
  · have hne : ¬ (C = 0 ∧ U = 0) := by
      rintro ⟨rfl, rfl⟩
      omega
    rw [show (R != 0) = true by simp [hR], show Bool.toNat true = 1 from rfl]
    -- both are the rounding of 2 * q + (what is left)
    obtain ⟨u, hu, hu1⟩ : ∃ u : Nat, decide (U ≠ 0) = decide (u ≠ 0) ∧ u = (if U = 0 then 0 else 1) := by
      refine ⟨if U = 0 then 0 else 1, ?_, rfl⟩
      by_cases c : U = 0
      · rw [if_pos c, c]
      · rw [if_neg c]; simp [c]
    have hu2 : u < 2 ^ 1 := by rw [hu1]; split <;> decide
    rw [hu, pack_any s (k := 1) (r := u) (by omega) (fun _ => by omega) hu2 _ (i - j - w - 9) (by omega)]
    have h1 := pack_sticky s (man := A) (k := 9) (e := 2 * C + u) (by omega) hA1 (by
      by_cases c : U = 0
      · have : C ≠ 0 := fun q => hne ⟨q, c⟩
        omega
      · rw [hu1, if_neg c]; omega) (by omega) (i - j - w) (i - j - w - 9) (by omega)
    have h2 := pack_sticky s (man := A) (k := 1) (e := 1) (by omega) hA1 (by decide) (by decide) (i - j - w) (i - j - w - 1) (by omega)
    rw [show (A * 2 ^ 8 + C) * 2 ^ 1 + u = A * 2 ^ 9 + (2 * C + u) by omega, ← h1, h2, Nat.pow_one, Nat.mul_comm A 2]
theorem div_core (s : Bool) {m n : Nat} (hm0 : m ≠ 0) (hn0 : n ≠ 0) (hm : m.log2 ≤ 52) (hn : n.log2 ≤ 52) (i j : Int) :
    pkM s (nM m * 2 ^ 62 / nM n) (nE m i - nE n j - 62) (decide (nM m * 2 ^ 62 % nM n ≠ 0)) =
    double.nearest s (2 * (m <<< (54 + n.log2 - m.log2) / n) + (m <<< (54 + n.log2 - m.log2) % n != 0).toNat) (i - j - ((54 + n.log2 - m.log2 : Nat) : Int) - 1) := by
  obtain ⟨w, hw⟩ : ∃ w, w = 54 + n.log2 - m.log2 := ⟨_, rfl⟩
  rw [← hw, Nat.shiftLeft_eq]
  have hnp : 0 < n := Nat.pos_of_ne_zero hn0
  -- the finer quotient
  have e1 : nM m * 2 ^ 62 / nM n = m * 2 ^ w * 2 ^ 8 / n := by
    unfold nM
    rw [Nat.mul_assoc, ← Nat.pow_add, Nat.mul_assoc, ← Nat.pow_add, show 52 - m.log2 + 62 = (w + 8) + (52 - n.log2) by omega, Nat.pow_add 2 (w + 8), ← Nat.mul_assoc, Nat.mul_div_mul_right _ _ (Nat.two_pow_pos _)]
  have e2 : nM m * 2 ^ 62 % nM n = m * 2 ^ w * 2 ^ 8 % n * 2 ^ (52 - n.log2) := by
    unfold nM
    rw [Nat.mul_assoc, ← Nat.pow_add, Nat.mul_assoc m, ← Nat.pow_add, show 52 - m.log2 + 62 = (w + 8) + (52 - n.log2) by omega, Nat.pow_add 2 (w + 8), ← Nat.mul_assoc, Nat.mul_mod_mul_right]
  have e3 : decide (nM m * 2 ^ 62 % nM n ≠ 0) = decide (m * 2 ^ w * 2 ^ 8 % n ≠ 0) := by
    rw [e2]
    have : m * 2 ^ w * 2 ^ 8 % n * 2 ^ (52 - n.log2) ≠ 0 ↔ m * 2 ^ w * 2 ^ 8 % n ≠ 0 := by
      constructor
      · intro h q; rw [q, Nat.zero_mul] at h; exact h rfl
      · intro h q; rcases Nat.mul_eq_zero.1 q with q | q
        · exact h q
        · exact absurd q (Nat.ne_of_gt (Nat.two_pow_pos _))
    exact decide_eq_decide.2 this
  have e4 : nE m i - nE n j - 62 = i - j - w - 8 := by unfold nE; omega
  rw [e1, e3, e4]
  -- bounds
  have hD1 : 2 ^ (54 + n.log2) ≤ m * 2 ^ w := by
    have := Nat.mul_le_mul_right (2 ^ w) (Nat.log2_self_le hm0)
    rw [← Nat.pow_add, show m.log2 + w = 54 + n.log2 by omega] at this
    exact this
  have hD2 : m * 2 ^ w < 2 ^ (55 + n.log2) := by
    have := Nat.mul_lt_mul_of_pos_right (k := 2 ^ w) (Nat.lt_log2_self (n := m)) (Nat.two_pow_pos _)
    rw [← Nat.pow_add, show m.log2 + 1 + w = 55 + n.log2 by omega] at this
    exact this
  have hn1 := Nat.log2_self_le hn0
  have hn2 := Nat.lt_log2_self (n := n)
  generalize m * 2 ^ w = D at *
  have hA1 : 9007199254740992 ≤ D / n := by
    rw [Nat.le_div_iff_mul_le hnp]
    refine Nat.le_trans ?_ hD1
    rw [show 54 + n.log2 = 53 + (n.log2 + 1) by omega, Nat.pow_add]
    exact Nat.mul_le_mul_left _ (Nat.le_of_lt hn2)
  have hA2 : D / n < 2 ^ 55 := by
    rw [Nat.div_lt_iff_lt_mul hnp]
    refine Nat.lt_of_lt_of_le hD2 ?_
    rw [Nat.pow_add]
    exact Nat.mul_le_mul_left _ hn1
  have hq : D * 2 ^ 8 / n = D / n * 2 ^ 8 + (D % n * 2 ^ 8) / n := by
    have := Nat.div_add_mod D n
    conv => lhs; rw [← this, Nat.add_mul, Nat.mul_assoc, Nat.add_comm, Nat.add_mul_div_left _ _ hnp, Nat.add_comm]
  have hq2 : D * 2 ^ 8 % n = (D % n * 2 ^ 8) % n := by rw [Nat.mod_mul_mod]
  have hrn : D % n < n := Nat.mod_lt _ hnp
  have hc : (D % n * 2 ^ 8) / n < 2 ^ 8 := by
    rw [Nat.div_lt_iff_lt_mul hnp, Nat.mul_comm]
    exact Nat.mul_lt_mul_of_pos_left hrn (by decide)
  rw [hq, hq2]
  exact div_tail s i j hnp hA1 hA2 hc (Nat.div_add_mod (D % n * 2 ^ 8) n)
theorem divW_ok {a b : Nat} (ha : a < 18446744073709551616) (hb : b < 18446744073709551616) : divW a b = (double.div a b).getD nanW := by
  unfold divW Format.div
  by_cases n1 : isNaNW a ∨ isNaNW b
  · rw [if_pos n1]
    rcases n1 with n1 | n1
    · obtain ⟨f, e⟩ := read_nan n1; rw [e]; simp [Datum.quotient]
    · obtain ⟨f, e⟩ := read_nan n1; rw [e]; cases double.read a <;> simp [Datum.quotient]
  · rw [if_neg n1]
    have na : ¬ isNaNW a := fun q => n1 (Or.inl q)
    have nb : ¬ isNaNW b := fun q => n1 (Or.inr q)
    by_cases ia : isInfW a
    · rw [if_pos ia, read_inf ia]
      by_cases ib : isInfW b
      · rw [if_pos ib, read_inf ib]; rfl
      · rw [if_neg ib, read_fin (fin_of nb ib)]
        simp only [Datum.quotient, Option.map_some]
        rw [inf_w]; rfl
    · rw [if_neg ia, read_fin (fin_of na ia)]
      by_cases ib : isInfW b
      · rw [if_pos ib, read_inf ib]
        simp only [Datum.quotient, Option.map_some, Option.getD_some]
        show _ = double.nearest _ 0 0
        rw [near_zero]
      · have fa := fin_of na ia
        have fb := fin_of nb ib
        rw [if_neg ib, read_fin fb]
        simp only [Datum.quotient]
        by_cases zb : isZW b
        · rw [if_pos zb, if_pos (zerP zb).1]
          by_cases za : isZW a
          · rw [if_pos za, if_pos (zerP za).1]; rfl
          · rw [if_neg za, if_neg (Nat.ne_of_gt (pM_pos za fa)), Option.map_some, inf_w]; rfl
        · have pb := pM_pos zb fb
          rw [if_neg zb, if_neg (Nat.ne_of_gt pb), Option.map_some, Option.getD_some]
          show _ = double.nearest _ _ _
          by_cases za : isZW a
          · rw [if_pos za, (zerP za).1, Nat.zero_shiftLeft, Nat.zero_div, Nat.zero_mod]
            show _ = double.nearest _ 0 _
            rw [near_zero]
          · have pa := pM_pos za fa
            have la : ∀ x, 0 < pM x → (pM x).log2 ≤ 52 := by
              intro x hx
              have := (Nat.log2_lt (k := 53) (Nat.ne_of_gt hx)).2 (by simpa using pM_lt x); omega
            rw [if_neg za, div_core _ (Nat.ne_of_gt pa) (Nat.ne_of_gt pb) (la a pa) (la b pb)]
            rfl
end Go.Nm
