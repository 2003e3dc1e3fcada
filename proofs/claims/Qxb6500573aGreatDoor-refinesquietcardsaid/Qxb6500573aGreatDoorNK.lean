/- Plain: numm's Format is num's. -/
import Derived.Test.Qxb6500573aGreatDoorNJ
import Derived.Test.Qxb6500573aGreatDoorWNumD
namespace Go.Nm
open Ieee Go.Sl Go.Wl
set_option exponentiation.threshold 2000
set_option linter.unusedVariables false
set_option linter.unusedSimpArgs false
set_option maxRecDepth 20000
theorem tzDvd : ∀ (f m t : Nat), 2 ^ t ∣ m → 2 ^ (tz f m t) ∣ m
  | 0, m, t, h => h
  | f + 1, m, t, h => by
    unfold tz
    by_cases c : m / 2 ^ t % 2 = 0
    · rw [if_pos c]
      refine tzDvd f m (t + 1) ?_
      obtain ⟨q, hq⟩ := h
      rw [hq, Nat.mul_div_cancel_left _ (Nat.two_pow_pos t)] at c
      obtain ⟨r, hr⟩ : ∃ r, q = 2 * r := ⟨q / 2, by omega⟩
      exact ⟨r, by rw [hq, hr, Nat.pow_succ, Nat.mul_assoc]⟩
    · rw [if_neg c]; exact h
def fmtW (m : Nat) (e : Int) : List UInt8 :=
  if (0 ≤ e ∧ e < 53) ∧ (m * 2 ^ e.toNat % 18446744073709551616 / 2 ^ e.toNat = m ∧ m * 2 ^ e.toNat % 18446744073709551616 < 9007199254740992) then utoa (m * 2 ^ e.toNat % 18446744073709551616)
  else utoa m ++ [112] ++ itoa e
def formatW (x : Nat) : List UInt8 :=
  if isNaNW x then [110, 97, 110]
  else (if sgW x = true then [45] else []) ++
    (if isInfW x then [105, 110, 102]
     else if isZW x then [48]
     else fmtW (pM x / 2 ^ tz 53 (pM x) 0) (pE x + tz 53 (pM x) 0))
theorem tz_spec {m : Nat} (h0 : m ≠ 0) (hl : m < 9007199254740992) : m = m / 2 ^ tz 53 m 0 * 2 ^ tz 53 m 0 ∧ m / 2 ^ tz 53 m 0 % 2 = 1 ∧ tz 53 m 0 ≤ 52 := by
  have hd : 2 ^ (tz 53 m 0) ∣ m := tzDvd 53 m 0 (by simp)
  have h1 : m = m / 2 ^ tz 53 m 0 * 2 ^ tz 53 m 0 := (Nat.div_mul_cancel hd).symm
  have key : ∀ f t, 2 ^ t ∣ m → 53 ≤ f + t → m / 2 ^ tz f m t % 2 = 1 := by
    intro f
    induction f with
    | zero =>
      intro t ht hf
      have : 2 ^ 53 ≤ 2 ^ t := Nat.pow_le_pow_right (by decide) (by omega)
      have := Nat.le_of_dvd (Nat.pos_of_ne_zero h0) ht
      omega
    | succ f ih =>
      intro t ht hf
      unfold tz
      by_cases c : m / 2 ^ t % 2 = 0
      · rw [if_pos c]
        refine ih (t + 1) ?_ (by omega)
        obtain ⟨q, hq⟩ := ht
        rw [hq, Nat.mul_div_cancel_left _ (Nat.two_pow_pos t)] at c
        obtain ⟨r, hr⟩ : ∃ r, q = 2 * r := ⟨q / 2, by omega⟩
        exact ⟨r, by rw [hq, hr, Nat.pow_succ, Nat.mul_assoc]⟩
      · rw [if_neg c]; omega
  refine ⟨h1, key 53 0 (by simp) (by omega), ?_⟩
  refine Decidable.byContradiction fun q => ?_
  have : 2 ^ 53 ≤ 2 ^ tz 53 m 0 := Nat.pow_le_pow_right (by decide) (by omega)
  have := Nat.le_of_dvd (Nat.pos_of_ne_zero h0) hd
  omega
theorem ford_pos {a b : Nat} (ha : a < 9218868437227405313) (hb : b < 9218868437227405313) : ford a b = some (cmpI (vG a : Int) (vG b : Int)) := by
  have e : ∀ x, x < 9218868437227405313 → ¬ isNaNW x ∧ svW x = (vG x : Int) := by
    intro x hx
    have h1 : mgW x = x := by unfold mgW; omega
    have h2 : sgW x = false := by unfold sgW; rw [show x / 9223372036854775808 % 2 = 0 by omega]; rfl
    refine ⟨by unfold isNaNW infB; rw [h1]; omega, ?_⟩
    unfold svW; rw [h1, h2]; rfl
  rw [ord_key (e a ha).1 (e b hb).1, (e a ha).2, (e b hb).2]
theorem cmpI_lt {a b : Nat} : some (cmpI (vG a : Int) (vG b : Int)) = some Ordering.lt ↔ a < b := by
  rw [Option.some.injEq]
  have := vG_lt (r := a) (s := b)
  unfold cmpI
  split
  · exact ⟨fun _ => by omega, fun _ => rfl⟩
  · split <;> exact ⟨fun q => (by cases q), fun q => by omega⟩
theorem cmpI_eq {a b : Nat} : some (cmpI (vG a : Int) (vG b : Int)) = some Ordering.eq ↔ a = b := by
  rw [Option.some.injEq]
  have := vG_eq (r := a) (s := b)
  unfold cmpI
  split
  · exact ⟨fun q => (by cases q), fun q => by have := this.2 q; omega⟩
  · split
    · exact ⟨fun _ => this.1 (by omega), fun _ => rfl⟩
    · exact ⟨fun q => (by cases q), fun q => by have := this.2 q; omega⟩
theorem cmpI_gt {a b : Nat} : some (cmpI (vG a : Int) (vG b : Int)) = some Ordering.gt ↔ b < a := by
  rw [Option.some.injEq]
  have h1 := vG_lt (r := b) (s := a)
  have h2 := vG_eq (r := a) (s := b)
  unfold cmpI
  split
  · exact ⟨fun q => (by cases q), fun q => by omega⟩
  · split
    · exact ⟨fun q => (by cases q), fun q => by omega⟩
    · exact ⟨fun _ => by omega, fun _ => rfl⟩
/-- A number's own magnitude as a word. -/
theorem mg_parts {x : Nat} (h : mgW x < infB) : pM (mgW x) = pM x ∧ pE (mgW x) = pE x ∧ mgW (mgW x) = mgW x ∧ sgW (mgW x) = false ∧ mgW x < 9218868437227405312 := by
  unfold mgW infB at *
  unfold pM pE sgW
  have e1 : x % 9223372036854775808 / 4503599627370496 % 2048 = x / 4503599627370496 % 2048 := by omega
  have e2 : x % 9223372036854775808 % 4503599627370496 = x % 4503599627370496 := by omega
  rw [e1, e2]
  refine ⟨rfl, rfl, by omega, ?_, h⟩
  rw [show x % 9223372036854775808 / 9223372036854775808 % 2 = 0 by omega]; rfl
/-- Below 2^53. -/
theorem lt53 {a : Nat} (h : a < 9218868437227405312) : a < 4845873199050653696 ↔ (pE a ≤ 0) := by
  unfold pE
  split <;> omega
theorem small_pos {a : Nat} (h : a < 9218868437227405312) (h0 : a ≠ 0) : pM a ≠ 0 := by
  have : ¬ isZW a := by unfold isZW mgW; omega
  exact Nat.ne_of_gt (pM_pos this (by unfold mgW infB; omega))
def flZ (a : Nat) : Nat := pM a * 2 ^ (pE a).toNat / 2 ^ (-pE a).toNat
theorem toInt_z {a : Nat} (h : a < 9218868437227405312) : (FloatKind.f64.decode a).toInt .zero = some ((flZ a : Nat) : Int) := by
  show (double.read a).toInt .zero = _
  have hs : sgW a = false := by unfold sgW; rw [show a / 9223372036854775808 % 2 = 0 by omega]; rfl
  rw [read_fin (by unfold mgW infB; omega), hs]
  unfold Datum.toInt Datum.integral
  dsimp only
  rw [signed_f, Nat.pow_zero, Nat.mul_one]
  congr 2
  unfold Toward.cut flZ
  dsimp only
  rw [Nat.shiftLeft_eq, Nat.shiftLeft_eq, Nat.one_mul, show Bool.toNat false = 0 from rfl, Nat.add_zero]
  generalize pM a * 2 ^ (pE a).toNat = n
  generalize (-pE a).toNat = d
  by_cases c : d ≤ n.log2 + 2
  · rw [Nat.min_eq_left c]
  · rw [Nat.min_eq_right (by omega)]
    have h1 : n < 2 ^ (n.log2 + 1) := Nat.lt_log2_self
    have h2 : 2 ^ (n.log2 + 1) ≤ 2 ^ (n.log2 + 2) := Nat.pow_le_pow_right (by decide) (by omega)
    have h3 : 2 ^ (n.log2 + 2) ≤ 2 ^ d := Nat.pow_le_pow_right (by decide) (by omega)
    rw [Nat.div_eq_of_lt (by omega), Nat.div_eq_of_lt (by omega)]
/-- A significand of 53 bits is kept. -/
theorem near_val {m : Nat} {p : Int} (hm : m < 9007199254740992) (hp : -1074 ≤ p) (hp2 : p ≤ 0) : svW (double.nearest false m p) = ((m * 2 ^ (p + 1074).toNat : Nat) : Int) := by
  by_cases h0 : m = 0
  · subst h0; rw [near_zero, Nat.zero_mul]; rfl
  · have hlog : m.log2 ≤ 52 := by have := (Nat.log2_lt (k := 53) h0).2 (by simpa using hm); omega
    have hL : lst (p + m.log2) ≤ p := by unfold lst; omega
    have hL2 : -1074 ≤ lst (p + m.log2) := by unfold lst; omega
    have hL4 : p + m.log2 - 52 ≤ lst (p + m.log2) := by unfold lst; omega
    have hL3 : lst (p + m.log2) = -1074 ∨ lst (p + m.log2) = p + m.log2 - 52 := by unfold lst; omega
    rw [near_eq false h0]
    generalize lst (p + m.log2) = L at *
    rw [show (L - p).toNat = 0 by omega]
    have hr : ∀ n, rn n 0 = n := fun n => by unfold rn; rw [Nat.pow_zero, Nat.div_one, Nat.mod_one, if_neg (by omega)]; rfl
    rw [hr, show sgB false = 0 from rfl, Nat.zero_add]
    -- the significand
    obtain ⟨M, hM⟩ : ∃ M, M = m * 2 ^ (p - L).toNat := ⟨_, rfl⟩
    have hMl : M.log2 = m.log2 + (p - L).toNat := by rw [hM]; exact log2_mul _ h0
    have hM0 : M ≠ 0 := by rw [hM]; exact Nat.ne_of_gt (Nat.mul_pos (Nat.pos_of_ne_zero h0) (Nat.two_pow_pos _))
    have hMlt : M < 9007199254740992 := by
      have : M < 2 ^ 53 := (Nat.log2_lt hM0).1 (by omega)
      simpa using this
    have hMge : L ≠ -1074 → 4503599627370496 ≤ M := by
      intro q
      have : 2 ^ 52 ≤ M := (Nat.le_log2 hM0).1 (by omega)
      simpa using this
    rw [← hM]
    have hval : m * 2 ^ (p + 1074).toNat = M * 2 ^ (L + 1074).toNat := by
      rw [hM, Nat.mul_assoc, ← Nat.pow_add]; congr 2; omega
    rw [hval]
    obtain ⟨k, hk⟩ : ∃ k : Nat, k = (L + 1074).toNat := ⟨_, rfl⟩
    have hk2 : k ≤ 1074 := by omega
    rw [← hk]
    have hMge2 : k ≠ 0 → 4503599627370496 ≤ M := fun q => hMge (by omega)
    rw [Nat.min_eq_left (by unfold infB; omega)]
    have hx : k * 4503599627370496 + M < 9218868437227405312 := by omega
    unfold svW
    have e1 : mgW (k * 4503599627370496 + M) = k * 4503599627370496 + M := by unfold mgW; omega
    have e2 : sgW (k * 4503599627370496 + M) = false := by unfold sgW; rw [show (k * 4503599627370496 + M) / 9223372036854775808 % 2 = 0 by omega]; rfl
    rw [e1, e2, if_neg (by decide)]
    congr 1
    unfold vG
    by_cases c : M < 4503599627370496
    · have hk0 : k = 0 := Decidable.byContradiction fun q => absurd (hMge2 q) (by omega)
      subst hk0
      rw [if_pos (by omega), Nat.pow_zero]; omega
    · have e3 : (k * 4503599627370496 + M) / 4503599627370496 = k + 1 := by omega
      have e4 : (k * 4503599627370496 + M) % 4503599627370496 = M - 4503599627370496 := by omega
      rw [e3, e4, if_neg (by omega), show M - 4503599627370496 + 4503599627370496 = M by omega, show k + 1 - 1 = k by omega]
/-- Whole or not. -/
theorem whole_iff {a : Nat} (h : a < 9218868437227405312) (h0 : a ≠ 0) (h53 : pE a ≤ 0) : ford a (floorF a) = some .eq ↔ pM a % 2 ^ (-pE a).toNat = 0 := by
  have hn : ¬ isNaNW a := by unfold isNaNW mgW infB; omega
  have hi : ¬ isInfW a := by unfold isInfW mgW infB; omega
  have hz : ¬ isZW a := by unfold isZW mgW; omega
  have hs : sgW a = false := by unfold sgW; rw [show a / 9223372036854775808 % 2 = 0 by omega]; rfl
  have hm := pM_lt a
  have hm0 := small_pos h h0
  have hfin : mgW a < infB := by unfold mgW infB; omega
  rw [← floorW_ok (by omega) hn]
  unfold floorW
  rw [if_neg hn, if_neg (fun q => q.elim hi hz), hs]
  by_cases c : 0 ≤ pE a
  · rw [if_pos c, show (-pE a).toNat = 0 by omega, Nat.pow_zero, Nat.mod_one, ford_pos (by omega) (by omega), cmpI_eq]; exact ⟨fun _ => rfl, fun _ => rfl⟩
  · rw [if_neg c]
    by_cases c2 : pE a ≤ -53
    · rw [if_pos c2, if_neg (by decide), ford_pos (by omega) (by omega), cmpI_eq]
      have h53 : 2 ^ 53 ≤ 2 ^ (-pE a).toNat := Nat.pow_le_pow_right (by decide) (by omega)
      rw [Nat.mod_eq_of_lt (by omega)]
      exact ⟨fun q => absurd q h0, fun q => absurd q hm0⟩
    · rw [if_neg c2]
      by_cases r : pM a % 2 ^ (-pE a).toNat = 0
      · rw [if_pos r, ford_pos (by omega) (by omega), cmpI_eq]; exact ⟨fun _ => r, fun _ => rfl⟩
      · rw [if_neg r, if_neg (by decide)]
        have hle := Nat.div_mul_le_self (pM a) (2 ^ (-pE a).toNat)
        have hdm := Nat.div_add_mod (pM a) (2 ^ (-pE a).toNat)
        rw [Nat.mul_comm] at hdm
        -- the floor lies below
        have hpk := pack_exact false (man := pM a / 2 ^ (-pE a).toNat * 2 ^ (-pE a).toNat) (by omega) (pE a)
        have hno := near_noNaN false (pM a / 2 ^ (-pE a).toNat * 2 ^ (-pE a).toNat) (pE a)
        refine ⟨fun q => ?_, fun q => absurd q r⟩
        exfalso
        have hn2 : ¬ isNaNW (pkM false (pM a / 2 ^ (-pE a).toNat * 2 ^ (-pE a).toNat) (pE a) false) := by
          rw [hpk]; intro q; exact absurd q (Nat.not_lt.2 hno.1)
        -- the exponent of the floor: the same or below
        have hval : svW (pkM false (pM a / 2 ^ (-pE a).toNat * 2 ^ (-pE a).toNat) (pE a) false) = ((pM a / 2 ^ (-pE a).toNat * 2 ^ (-pE a).toNat * 2 ^ (pE a + 1074).toNat : Nat) : Int) := by
          rw [hpk]
          exact near_val (by omega) (pE_ge a) (by omega)
        rw [ord_key hn hn2, hval, ← sv_fin, hs, signed_f, Option.some.injEq] at q
        have hpos := Nat.two_pow_pos (pE a + 1074).toNat
        have hlt : pM a / 2 ^ (-pE a).toNat * 2 ^ (-pE a).toNat * 2 ^ (pE a + 1074).toNat < pM a * 2 ^ (pE a + 1074).toNat := Nat.mul_lt_mul_of_pos_right (by omega) hpos
        unfold cmpI at q
        rw [if_neg (by omega), if_neg (by omega)] at q
        cases q
theorem fmtEnd_ok (pre : List UInt8) {m : Nat} (h0 : m ≠ 0) (e : Int) : fmtEnd pre m e = some (pre ++ (utoa (m / 2 ^ tz 53 m 0) ++ [112] ++ itoa (e + tz 53 m 0))) := by
  unfold fmtEnd itoa
  rw [if_neg h0]
  congr 1
  split <;> simp
theorem fmtTail_ok (pre : List UInt8) {x : Nat} (h0 : pM x ≠ 0) : fmtTail pre x = some (pre ++ (utoa (pM x / 2 ^ tz 53 (pM x) 0) ++ [112] ++ itoa (pE x + tz 53 (pM x) 0))) := by
  rw [← fmtEnd_ok pre h0]
  unfold fmtTail pM pE
  by_cases c : x / 4503599627370496 % 2048 = 0
  · rw [if_pos (by omega), if_pos c, if_pos c]
  · rw [if_neg (by omega), if_neg c, if_neg c]
theorem fmtRest_ok (pre : List UInt8) {x : Nat} (h : mgW x < infB) (h0 : ¬ isZW x) : fmtRest pre (mgW x) x = some (pre ++ fmtW (pM x / 2 ^ tz 53 (pM x) 0) (pE x + tz 53 (pM x) 0)) := by
  have hp := mg_parts h
  have hP0 : pM x ≠ 0 := Nat.ne_of_gt (pM_pos h0 h)
  have hPl := pM_lt x
  have hz := tz_spec hP0 hPl
  have ha0 : mgW x ≠ 0 := h0
  unfold fmtRest
  have hnn : isNan (FloatKind.f64.decode (mgW x)) = false := by
    cases hh : isNan (FloatKind.f64.decode (mgW x)) with
    | false => rfl
    | true => have := isNan_iff.1 hh; unfold isNaNW at this; rw [hp.2.2.1] at this; unfold infB at this; omega
  have l53 : ford (mgW x) two53 = some .lt ↔ pE x ≤ 0 := by
    rw [ford_pos (by omega) (by decide), cmpI_lt, ← hp.2.1]; exact lt53 hp.2.2.2.2
  have hm1 : pM x / 2 ^ tz 53 (pM x) 0 ≠ 0 := by omega
  have hmle : pM x / 2 ^ tz 53 (pM x) 0 ≤ pM x := Nat.div_le_self _ _
  rw [fmtTail_ok pre hP0]
  by_cases c : pE x ≤ 0
  · rw [if_pos (l53.2 c), hnn, if_neg (by decide)]
    have hw := whole_iff hp.2.2.2.2 ha0 (by rw [hp.2.1]; exact c)
    rw [hp.1, hp.2.1] at hw
    have hmod : pM x % 2 ^ (-pE x).toNat = 0 ↔ (-pE x).toNat ≤ tz 53 (pM x) 0 := by
      obtain ⟨k, hk⟩ : ∃ k, k = (-pE x).toNat := ⟨_, rfl⟩
      rw [← hk]
      constructor
      · intro q
        refine Decidable.byContradiction fun r => ?_
        have h1 : 2 ^ k ∣ pM x := Nat.dvd_of_mod_eq_zero q
        have h2 : 2 ^ (tz 53 (pM x) 0 + 1) ∣ 2 ^ k := Nat.pow_dvd_pow 2 (by omega)
        obtain ⟨w, hw⟩ := Nat.dvd_trans h2 h1
        have h3 : pM x / 2 ^ tz 53 (pM x) 0 = 2 * w := by
          conv => lhs; lhs; rw [hw]
          rw [Nat.pow_succ, Nat.mul_assoc, Nat.mul_div_cancel_left _ (Nat.two_pow_pos _)]
        have := hz.2.1
        omega
      · intro q
        have h2 : 2 ^ k ∣ 2 ^ tz 53 (pM x) 0 := Nat.pow_dvd_pow 2 q
        exact Nat.mod_eq_zero_of_dvd (Nat.dvd_trans h2 (tzDvd 53 (pM x) 0 (by simp)))
    by_cases w : pM x % 2 ^ (-pE x).toNat = 0
    · rw [if_pos (hw.2 w), toInt_z hp.2.2.2.2]
      have hk := hmod.1 w
      have hval : flZ (mgW x) = pM x / 2 ^ tz 53 (pM x) 0 * 2 ^ (pE x + (tz 53 (pM x) 0 : Int)).toNat := by
        unfold flZ
        rw [hp.1, hp.2.1, show (pE x).toNat = 0 by omega, Nat.pow_zero, Nat.mul_one]
        obtain ⟨M, hM⟩ : ∃ M, M = pM x / 2 ^ tz 53 (pM x) 0 := ⟨_, rfl⟩
        have h1 := hz.1
        rw [← hM] at h1 ⊢
        rw [show tz 53 (pM x) 0 = (pE x + (tz 53 (pM x) 0 : Int)).toNat + (-pE x).toNat by omega, Nat.pow_add, ← Nat.mul_assoc] at h1
        conv => lhs; lhs; rw [h1]
        exact Nat.mul_div_cancel _ (Nat.two_pow_pos _)
      have hle : flZ (mgW x) ≤ pM x := by
        unfold flZ; rw [hp.1, hp.2.1, show (pE x).toNat = 0 by omega, Nat.pow_zero, Nat.mul_one]; exact Nat.div_le_self _ _
      dsimp only
      rw [if_pos (by omega), Int.toNat_natCast]
      unfold fmtW
      rw [← hval, Nat.mod_eq_of_lt (by omega), if_pos]
      refine ⟨by omega, ?_, by omega⟩
      rw [hval, Nat.mul_div_cancel _ (Nat.two_pow_pos _)]
    · rw [if_neg (fun q => w (hw.1 q))]
      unfold fmtW
      have hk : ¬ (-pE x).toNat ≤ tz 53 (pM x) 0 := fun q => w (hmod.2 q)
      rw [if_neg (fun q => by omega)]
  · rw [if_neg (fun q => c (l53.1 q))]
    unfold fmtW
    rw [if_neg]
    rintro ⟨⟨g1, g2⟩, g3, g4⟩
    have hge : 4503599627370496 ≤ pM x := pM_ge (by omega)
    obtain ⟨M, hM⟩ : ∃ M, M = pM x / 2 ^ tz 53 (pM x) 0 := ⟨_, rfl⟩
    obtain ⟨e, he⟩ : ∃ e, e = (pE x + (tz 53 (pM x) 0 : Int)).toNat := ⟨_, rfl⟩
    rw [← hM, ← he] at g3 g4
    have h1 := hz.1
    rw [← hM] at h1
    have h2 : M * 2 ^ e = pM x * 2 ^ (pE x).toNat := by
      conv => rhs; rw [h1]
      rw [Nat.mul_assoc, ← Nat.pow_add]; congr 2; omega
    have h3 : pM x * 2 ^ 1 ≤ pM x * 2 ^ (pE x).toNat := Nat.mul_le_mul_left _ (Nat.pow_le_pow_right (by decide) (by omega))
    have h4 := Nat.div_mul_le_self (M * 2 ^ e % 18446744073709551616) (2 ^ e)
    rw [g3] at h4
    omega
theorem formatW_ok {x : Nat} (h : x < 18446744073709551616) : formatM x = some (formatW x) := by
  unfold formatM formatW
  by_cases n : isNaNW x
  · rw [ford_nan (Or.inl n), if_pos (by simp), if_pos n]
  · rw [ford_self n, if_neg (fun q => q rfl), if_neg n]
    have sx := sg_iff h
    have hle : mgW x ≤ infB := by unfold isNaNW at n; omega
    have smax : ∀ y, y = maxFin ∨ y = minFin → ¬ isNaNW y := by rintro y (rfl | rfl) <;> decide
    have vmax : svW maxFin = (vG 9218868437227405311 : Int) := rfl
    have vmin : svW minFin = -(vG 9218868437227405311 : Int) := rfl
    have hpos : 0 < vG 9218868437227405311 := Nat.lt_of_le_of_lt (Nat.zero_le _) (vG_mono (show 9218868437227405310 < 9218868437227405311 by decide))
    have hv := vG_lt (r := 9218868437227405311) (s := mgW x)
    have hv2 := vG_lt (r := mgW x) (s := 9218868437227405312)
    have c1 : ford x maxFin = some .gt ↔ (sgW x = false ∧ isInfW x) := by
      rw [ord_key n (smax _ (Or.inl rfl)), vmax, Option.some.injEq]
      unfold svW cmpI isInfW infB at *
      cases sgW x
      · simp only [Bool.false_eq_true, if_false]
        generalize vG 9218868437227405311 = V at *
        generalize vG (mgW x) = W at *
        constructor
        · intro q
          refine ⟨trivial, ?_⟩
          split at q
          · cases q
          · split at q
            · cases q
            · omega
        · intro q
          rw [if_neg (by omega), if_neg (by omega)]
      · simp only [if_true]
        generalize vG 9218868437227405311 = V at *
        generalize vG (mgW x) = W at *
        rw [if_pos (by omega)]
        exact ⟨fun q => (by cases q), fun q => (by cases q.1)⟩
    have c2 : ford x minFin = some .lt ↔ (sgW x = true ∧ isInfW x) := by
      rw [ord_key n (smax _ (Or.inr rfl)), vmin, Option.some.injEq]
      unfold svW cmpI isInfW infB at *
      cases sgW x
      · simp only [Bool.false_eq_true, if_false]
        generalize vG 9218868437227405311 = V at *
        generalize vG (mgW x) = W at *
        rw [if_neg (by omega)]
        constructor
        · intro q; split at q <;> cases q
        · intro q; cases q.1
      · simp only [if_true]
        generalize vG 9218868437227405311 = V at *
        generalize vG (mgW x) = W at *
        constructor
        · intro q
          refine ⟨trivial, ?_⟩
          split at q
          · omega
          · split at q <;> cases q
        · intro q
          rw [if_pos (by omega)]
    have c3 : x / 4503599627370496 / 2048 ≠ 0 ↔ sgW x = true := by rw [sx]; omega
    have hneg : sgW x = true → Op.negFloat .f64 x = mgW x := by
      intro s
      have e : Op.negFloat .f64 x = flipW x := by
        have := negM_ok h
        rw [if_neg n] at this
        unfold negM bitsM at this
        split at this
        · rename_i q
          exfalso
          have hn2 : ¬ isNaNW (flipW x) := by unfold isNaNW; rw [(flip_mg h).1]; exact n
          have h63 : nanB = flipW x := this
          rw [← h63] at hn2
          exact hn2 (by decide)
        · exact this
      rw [e]
      have := sx.1 s
      unfold flipW mgW
      rw [if_neg (by omega)]; omega
    have hm : sgW x = false → x = mgW x := by
      intro s
      have : ¬ 9223372036854775808 ≤ x := fun q => by rw [sx.2 q] at s; cases s
      unfold mgW; omega
    by_cases i : isInfW x
    · rw [if_pos i]
      cases s : sgW x
      · rw [if_pos (c1.2 ⟨s, i⟩), if_neg (by decide)]; rfl
      · rw [if_neg (fun q => by have := (c1.1 q).1; rw [s] at this; cases this), if_pos (c2.2 ⟨s, i⟩), if_pos rfl]; rfl
    · rw [if_neg i, if_neg (fun q => i (c1.1 q).2), if_neg (fun q => i (c2.1 q).2)]
      have hf := fin_of n i
      have zcase : isZW x → ∀ pre, fmtRest pre (mgW x) x = some (pre ++ [48]) := by
        intro z pre
        rw [show mgW x = 0 from z]
        unfold fmtRest
        rw [if_pos (by decide), if_neg (by decide), if_pos (by decide), toInt_z (by decide)]
        rfl
      cases s : sgW x
      · rw [if_neg (fun q => by have := c3.1 q; rw [s] at this; cases this), if_neg (by decide)]
        conv => lhs; arg 2; rw [hm s]
        by_cases z : isZW x
        · rw [if_pos z, zcase z]
        · rw [if_neg z, fmtRest_ok _ hf z]
      · rw [if_pos (c3.2 s), if_pos rfl, hneg s]
        by_cases z : isZW x
        · rw [if_pos z, zcase z]
        · rw [if_neg z, fmtRest_ok _ hf z]
end Go.Nm
