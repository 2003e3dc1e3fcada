/- Plain: numm's Parse is num's. -/
import Derived.Test.Qxb6500573aGreatDoorNK
import Derived.Test.Qxb6500573aGreatDoorBU
namespace Go.Nm
open Ieee Go.Sl Go.Wl
set_option exponentiation.threshold 5000
set_option linter.unusedVariables false
set_option linter.unusedSimpArgs false
set_option maxRecDepth 20000
/-- Whole numbers up to 2^53 are words. -/
theorem near_nat {n : Nat} (h : n ≤ 9007199254740992) : double.nearest false n 0 < 9218868437227405312 ∧ pM (double.nearest false n 0) * 2 ^ (pE (double.nearest false n 0) + 1074).toNat = n * 2 ^ 1074 ∧ (n ≠ 0 → -52 ≤ pE (double.nearest false n 0) ∧ 4503599627370496 ≤ pM (double.nearest false n 0)) := by
  by_cases hn0 : n = 0
  · subst hn0
    rw [near_zero]
    exact ⟨by decide, by rw [show pM (sgB false) = 0 by decide, Nat.zero_mul, Nat.zero_mul], fun q => absurd rfl q⟩
  by_cases c : n = 9007199254740992
  · subst c
    refine ⟨by decide, ?_, fun _ => by decide⟩
    rw [show double.nearest false 9007199254740992 0 = 4845873199050653696 by decide, show pM 4845873199050653696 = 4503599627370496 by decide, show (pE 4845873199050653696 + 1074).toNat = 1 + 1074 by decide, Nat.pow_add, ← Nat.mul_assoc]
  · have hv := near_val (m := n) (p := 0) (by omega) (by decide) (by decide)
    have hno := near_noNaN false n 0
    rw [show ((0 : Int) + 1074).toNat = 1074 by decide] at hv
    generalize double.nearest false n 0 = x at *
    have hnn : ¬ isNaNW x := fun q => absurd q (Nat.not_lt.2 hno.1)
    have hsg : sgW x = true → vG (mgW x) = 0 := by
      intro s
      unfold svW at hv
      rw [if_pos s] at hv
      generalize n * 2 ^ 1074 = N at hv
      omega
    have hz0 : vG (mgW x) = 0 → mgW x = 0 := fun q => vG_eq.1 q
    have hvG : vG (mgW x) = n * 2 ^ 1074 := by
      unfold svW at hv
      generalize n * 2 ^ 1074 = N at hv ⊢
      split at hv <;> omega
    have hnb : n * 2 ^ 1074 < 9007199254740992 * 2 ^ 1074 := Nat.mul_lt_mul_of_pos_right (by omega) (Nat.two_pow_pos _)
    have hfin : mgW x < 9218868437227405312 := by
      rw [← vG_lt, hvG]
      refine Nat.lt_trans hnb ?_
      rw [show vG 9218868437227405312 = 4503599627370496 * 2 ^ 2046 by
        unfold vG; rw [if_neg (by decide), show (9218868437227405312 : Nat) % 4503599627370496 + 4503599627370496 = 4503599627370496 by decide, show (9218868437227405312 : Nat) / 4503599627370496 - 1 = 2046 by decide]]
      rw [show 2046 = 1074 + 972 by decide, Nat.pow_add, ← Nat.mul_assoc, Nat.mul_right_comm]
      exact Nat.mul_lt_mul_of_pos_right (by
        have : 2 ^ 53 ≤ 2 ^ 972 := Nat.pow_le_pow_right (by decide) (by decide)
        omega) (Nat.two_pow_pos _)
    have hpos : sgW x = false ∨ mgW x = 0 := by
      cases s : sgW x
      · exact Or.inl rfl
      · exact Or.inr (hz0 (hsg s))
    have key : n ≠ 0 → -52 ≤ pE x ∧ 4503599627370496 ≤ pM x := by
      intro hn
      have h1 : pM x * 2 ^ (pE x + 1074).toNat = n * 2 ^ 1074 := by rw [← vG_fin, hvG]
      have h2 : 1 * 2 ^ 1074 ≤ n * 2 ^ 1074 := Nat.mul_le_mul_right _ (by omega)
      have h3 := pM_lt x
      have h4 : -52 ≤ pE x := by
        refine Decidable.byContradiction fun q => ?_
        have h5 : 2 ^ (pE x + 1074).toNat ≤ 2 ^ 1021 := Nat.pow_le_pow_right (by decide) (by omega)
        have h6 : pM x * 2 ^ (pE x + 1074).toNat < 9007199254740992 * 2 ^ 1021 := Nat.lt_of_lt_of_le (Nat.mul_lt_mul_of_pos_right h3 (Nat.two_pow_pos _)) (Nat.mul_le_mul_left _ h5)
        rw [show (9007199254740992 : Nat) = 2 ^ 53 by decide, ← Nat.pow_add, show 53 + 1021 = 1074 by decide] at h6
        omega
      exact ⟨h4, pM_ge (by omega)⟩
    refine ⟨?_, by rw [← vG_fin, hvG], key⟩
    · have hlt := hno.2
      rcases hpos with s | z
      · have : ¬ 9223372036854775808 ≤ x := fun q => by rw [(sg_iff hlt).2 q] at s; cases s
        unfold mgW at hfin; omega
      · have h1 := (key hn0).2
        have : isZW x := z
        rw [(zerP this).1] at h1
        omega
theorem near_one {m m' : Nat} {p p' q : Int} (s : Bool) (h1 : q ≤ p) (h2 : q ≤ p') (h : m * 2 ^ (p - q).toNat = m' * 2 ^ (p' - q).toNat) : double.nearest s m p = double.nearest s m' p' := by
  rw [← near_shift s m (p - q).toNat p q (by omega), ← near_shift s m' (p' - q).toNat p' q (by omega), h]
/-- A product of two that are no zero, both positive. -/
theorem mul_pos {a b : Nat} (ha : a < 9218868437227405312) (hb : b < 9218868437227405312) : double.mul a b = some (double.nearest false (pM a * pM b) (pE a + pE b)) := by
  have sg : ∀ x, x < 9218868437227405312 → sgW x = false := fun x hx => by unfold sgW; rw [show x / 9223372036854775808 % 2 = 0 by omega]; rfl
  unfold Format.mul
  rw [read_fin (by unfold mgW infB; omega), read_fin (by unfold mgW infB; omega), sg a ha, sg b hb]
  rfl
theorem ldexp_eq {n : Nat} (h : n ≤ 9007199254740992) (e : Int) : ldexpM (FloatKind.f64.nearest (n : Int)) e = some (double.nearest false n e) := by
  have e0 : FloatKind.f64.nearest (n : Int) = double.nearest false n 0 := by
    show double.nearest (decide ((n : Int) < 0)) (n : Int).natAbs 0 = _
    rw [decide_eq_false (by omega), Int.natAbs_natCast]
  rw [e0]
  by_cases hn : n = 0
  · subst hn
    rw [near_zero, near_zero]
    unfold ldexpM
    rw [if_neg (by decide), if_pos (by decide)]
  have hx := near_nat h
  have hk := hx.2.2 hn
  generalize double.nearest false n 0 = f at *
  have hf := hx.1
  have hf0 : f ≠ 0 := by
    intro q; subst q; exact absurd hk.2 (by decide)
  unfold ldexpM
  rw [if_neg (by omega), Wl.and63 (by omega), ford_pos (by omega) (by decide), ford_pos (by omega) (by decide), ford_pos (by omega) (by omega), ford_pos (by omega) (by decide)]
  have hmin : ¬ f < 4503599627370496 := by
    have h1 := hk.1
    unfold pE at h1
    split at h1 <;> omega
  rw [if_neg (fun q => hf0 (cmpI_eq.1 q)), if_neg (fun q => q.elim (fun q => absurd (cmpI_gt.1 q) (Nat.not_lt.2 (show f ≤ 9218868437227405311 by omega))) (fun q => q (cmpI_eq.2 rfl))), if_neg (fun q => hmin (cmpI_lt.1 q))]
  dsimp only
  have hE : f / 2 ^ 52 % 2048 = f / 4503599627370496 % 2048 := rfl
  have hpE : pE f = ((f / 4503599627370496 % 2048 : Nat) : Int) - 1075 := by unfold pE; rw [if_neg (by omega)]
  have hpM : pM f = f % 4503599627370496 + 4503599627370496 := by unfold pM; rw [if_neg (by omega)]
  have hlog : (pM f).log2 = 52 := by
    have h0 : pM f ≠ 0 := by omega
    have h1 : 52 ≤ (pM f).log2 := by rw [Nat.le_log2 h0]; exact hk.2
    have h2 := (Nat.log2_lt (k := 53) h0).2 (by simpa using pM_lt f)
    omega
  have hgoal : double.nearest false n e = double.nearest false (pM f) (pE f + e) := by
    refine near_one (q := e - 1074) false (by omega) (by have := pE_ge f; omega) ?_
    rw [show (e - (e - 1074)).toNat = 1074 by omega, show (pE f + e - (e - 1074)).toNat = (pE f + 1074).toNat by omega]
    exact hx.2.1.symm
  rw [hgoal, hE]
  obtain ⟨E, hEE⟩ : ∃ E : Nat, E = f / 4503599627370496 % 2048 := ⟨_, rfl⟩
  rw [← hEE] at hpE ⊢
  have hEl : 1 ≤ E ∧ E ≤ 2046 := by omega
  rw [← pack_exact false (by have := pM_lt f; omega)]
  by_cases c1 : e + ((E : Int) - 1023) < -1075
  · rw [if_pos c1, if_pos (by omega)]
    unfold pkM
    rw [if_neg (by omega), hlog, if_neg (by omega), if_pos (by unfold drpP; rw [if_pos (by omega)]; omega)]
    rfl
  · rw [if_neg c1]
    by_cases c2 : 1023 < e + ((E : Int) - 1023)
    · rw [if_pos c2, if_pos (by rw [Ne, cmpI_lt]; omega)]
      unfold pkM
      rw [if_neg (by omega), hlog, if_pos (by omega)]
      rfl
    · rw [if_neg c2, pack_exact false (by have := pM_lt f; omega)]
      have hF := Nat.mod_lt f (show 0 < 4503599627370496 by decide)
      have key : ∀ k : Nat, 1 ≤ k → k ≤ 2046 → (bitI .or .u64 (bitI .andNot .u64 (f : Int) 9218868437227405312) ((k : Int) * 4503599627370496)).toNat = k * 4503599627370496 + f % 4503599627370496 := by
        intro k h1 h2
        rw [andE (by omega), show ((k : Int) * 4503599627370496) = ((k * 4503599627370496 : Nat) : Int) by omega]
        exact orE hF (by omega)
      have pp : ∀ k : Nat, 1 ≤ k → k ≤ 2046 → pM (k * 4503599627370496 + f % 4503599627370496) = pM f ∧ pE (k * 4503599627370496 + f % 4503599627370496) = (k : Int) - 1075 ∧ k * 4503599627370496 + f % 4503599627370496 < 9218868437227405312 := by
        intro k h1 h2
        have e1 : (k * 4503599627370496 + f % 4503599627370496) / 4503599627370496 % 2048 = k := by omega
        have e2 : (k * 4503599627370496 + f % 4503599627370496) % 4503599627370496 = f % 4503599627370496 := by omega
        unfold pM pE
        rw [e1, e2, if_neg (by omega), if_neg (by omega), if_neg (by omega)]
        exact ⟨rfl, rfl, by omega⟩
      by_cases c3 : e + ((E : Int) - 1023) < -1022
      · rw [if_pos c3, if_pos c3]
        obtain ⟨k, hk1⟩ : ∃ k : Nat, (k : Int) = e + ((E : Int) - 1023) + 53 + 1023 := ⟨(e + ((E : Int) - 1023) + 53 + 1023).toNat, by omega⟩
        rw [← hk1, key k (by omega) (by omega)]
        have hp := pp k (by omega) (by omega)
        show double.mul _ _ = _
        rw [mul_pos (by decide) hp.2.2, hp.1, hp.2.1, show pM 4368491638549381120 = 4503599627370496 by decide, show pE 4368491638549381120 = -105 by decide]
        congr 1
        refine near_one (q := pE f + e - 52) false (by omega) (by omega) ?_
        rw [show ((-105 : Int) + ((k : Int) - 1075) - (pE f + e - 52)).toNat = 0 by omega, show (pE f + e - (pE f + e - 52)).toNat = 52 by omega, Nat.pow_zero, Nat.mul_one, Nat.mul_comm]
      · rw [if_neg c3, if_neg c3]
        obtain ⟨k, hk1⟩ : ∃ k : Nat, (k : Int) = e + ((E : Int) - 1023) + 1023 := ⟨(e + ((E : Int) - 1023) + 1023).toNat, by omega⟩
        rw [← hk1, key k (by omega) (by omega)]
        have hp := pp k (by omega) (by omega)
        show double.mul _ _ = _
        rw [mul_pos (by decide) hp.2.2, hp.1, hp.2.1, show pM 4607182418800017408 = 4503599627370496 by decide, show pE 4607182418800017408 = -52 by decide]
        congr 1
        refine near_one (q := pE f + e - 52) false (by omega) (by omega) ?_
        rw [show ((-52 : Int) + ((k : Int) - 1075) - (pE f + e - 52)).toNat = 0 by omega, show (pE f + e - (pE f + e - 52)).toNat = 52 by omega, Nat.pow_zero, Nat.mul_one, Nat.mul_comm]
end Go.Nm
