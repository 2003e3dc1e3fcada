/- Plain: numm's order and sign. -/
import Derived.Test.Qxb6500573aGreatDoorNI
namespace Go.Nm
open Ieee Go.Sl Go.Wl
set_option linter.unusedVariables false
set_option linter.unusedSimpArgs false
/-- A magnitude in units of the least one; infinity's comes above all. -/
def vG (r : Nat) : Nat := if r / 4503599627370496 = 0 then r else (r % 4503599627370496 + 4503599627370496) * 2 ^ (r / 4503599627370496 - 1)
theorem vG_mono {r s : Nat} (h : r < s) : vG r < vG s := by
  unfold vG
  have e1 : r / 4503599627370496 ≤ s / 4503599627370496 := Nat.div_le_div_right (Nat.le_of_lt h)
  have er : r % 4503599627370496 < 4503599627370496 := Nat.mod_lt _ (by decide)
  have es : s % 4503599627370496 < 4503599627370496 := Nat.mod_lt _ (by decide)
  have dr := Nat.div_add_mod r 4503599627370496
  have ds := Nat.div_add_mod s 4503599627370496
  generalize r / 4503599627370496 = E at *
  generalize s / 4503599627370496 = F at *
  generalize r % 4503599627370496 = x at *
  generalize s % 4503599627370496 = y at *
  by_cases c : E = 0
  · rw [if_pos c]
    by_cases c2 : F = 0
    · rw [if_pos c2]; exact h
    · rw [if_neg c2]
      have : 1 ≤ 2 ^ (F - 1) := Nat.two_pow_pos _
      have : (y + 4503599627370496) * 1 ≤ (y + 4503599627370496) * 2 ^ (F - 1) := Nat.mul_le_mul_left _ this
      subst c
      omega
  · rw [if_neg c, if_neg (by omega)]
    by_cases c2 : E = F
    · subst c2
      exact Nat.mul_lt_mul_of_pos_right (by omega) (Nat.two_pow_pos _)
    · have h1 : (x + 4503599627370496) * 2 ^ (E - 1) < 9007199254740992 * 2 ^ (E - 1) := Nat.mul_lt_mul_of_pos_right (by omega) (Nat.two_pow_pos _)
      have h2 : 2 ^ E ≤ 2 ^ (F - 1) := Nat.pow_le_pow_right (by decide) (by omega)
      have h3 : 9007199254740992 * 2 ^ (E - 1) = 4503599627370496 * 2 ^ E := by
        rw [show 2 ^ E = 2 * 2 ^ (E - 1) from half (by omega), ← Nat.mul_assoc]
      have h4 : 4503599627370496 * 2 ^ E ≤ (y + 4503599627370496) * 2 ^ (F - 1) := Nat.mul_le_mul (by omega) h2
      omega
theorem vG_lt {r s : Nat} : vG r < vG s ↔ r < s := by
  constructor
  · intro h
    rcases Nat.lt_trichotomy r s with c | c | c
    · exact c
    · subst c; exact absurd h (Nat.lt_irrefl _)
    · have := vG_mono c; omega
  · exact vG_mono
theorem vG_eq {r s : Nat} : vG r = vG s ↔ r = s := by
  constructor
  · intro h
    rcases Nat.lt_trichotomy r s with c | c | c
    · have := vG_mono c; omega
    · exact c
    · have := vG_mono c; omega
  · intro h; rw [h]
theorem vG_fin {x : Nat} : vG (mgW x) = pM x * 2 ^ (pE x + 1074).toNat := by
  unfold vG mgW pM pE
  have e1 : x % 9223372036854775808 / 4503599627370496 = x / 4503599627370496 % 2048 := by omega
  have e2 : x % 9223372036854775808 % 4503599627370496 = x % 4503599627370496 := by omega
  rw [e1, e2]
  by_cases c : x / 4503599627370496 % 2048 = 0
  · rw [if_pos c, if_pos c, if_pos c, show ((-1074 : Int) + 1074).toNat = 0 by decide, Nat.pow_zero, Nat.mul_one]; omega
  · rw [if_neg c, if_neg c, if_neg c, show (((x / 4503599627370496 % 2048 : Nat) : Int) - 1075 + 1074).toNat = x / 4503599627370496 % 2048 - 1 by omega]
def svW (x : Nat) : Int := if sgW x = true then -(vG (mgW x) : Int) else (vG (mgW x) : Int)
def cmpI (a b : Int) : Ordering := if a < b then .lt else if a = b then .eq else .gt
theorem cmp_I (a b : Int) : compare a b = cmpI a b := rfl
theorem cmpI_mul (a b : Int) {c : Int} (hc : 0 < c) : cmpI (a * c) (b * c) = cmpI a b := by
  unfold cmpI
  by_cases h : a < b
  · rw [if_pos h, if_pos (Int.mul_lt_mul_of_pos_right h hc)]
  · have h' : ¬ a * c < b * c := Int.not_lt.2 (Int.mul_le_mul_of_nonneg_right (Int.not_lt.1 h) (Int.le_of_lt hc))
    rw [if_neg h, if_neg h']
    by_cases h2 : a = b
    · rw [if_pos h2, if_pos (by rw [h2])]
    · rw [if_neg h2, if_neg (fun e => h2 (Int.eq_of_mul_eq_mul_right (Int.ne_of_gt hc) e))]
theorem signed_mul (s : Bool) (m a b : Nat) : signed s m a * ((2 ^ b : Nat) : Int) = signed s m (a + b) := by
  cases s
  · rw [signed_f, signed_f, Nat.pow_add, ← Nat.mul_assoc]; exact (Int.natCast_mul _ _).symm
  · rw [signed_t, signed_t, Nat.pow_add, ← Nat.mul_assoc, Int.neg_mul]; congr 1
theorem sv_fin {x : Nat} : signed (sgW x) (pM x) (pE x + 1074).toNat = svW x := by
  unfold svW
  rw [vG_fin]
  cases sgW x
  · rw [signed_f, if_neg (by decide)]
  · rw [signed_t, if_pos rfl]
theorem ord_key {a b : Nat} (ha : ¬ isNaNW a) (hb : ¬ isNaNW b) : ford a b = some (cmpI (svW a) (svW b)) := by
  show (double.read a).order (double.read b) = _
  have big : ∀ x, ¬ isNaNW x → ¬ isInfW x → vG (mgW x) < vG infB := fun x h1 h2 => vG_mono (fin_of h1 h2)
  by_cases ia : isInfW a
  · rw [read_inf ia]
    have ea : mgW a = infB := ia
    by_cases ib : isInfW b
    · rw [read_inf ib]
      have eb : mgW b = infB := ib
      unfold svW
      rw [ea, eb]
      have hp : 0 < vG infB := vG_lt.2 (show 0 < infB by decide) |> fun h => Nat.lt_of_le_of_lt (Nat.zero_le _) h
      simp only [Datum.order]
      generalize vG infB = V at *
      cases sgW a <;> cases sgW b <;> simp only [if_pos, if_neg, Bool.false_eq_true, if_false, if_true] <;> unfold cmpI
      · rw [if_neg (by omega), if_pos rfl]; rfl
      · rw [if_neg (by omega), if_neg (by omega)]; rfl
      · rw [if_pos (by omega)]; rfl
      · rw [if_neg (by omega), if_pos rfl]; rfl
    · rw [read_fin (fin_of hb ib)]
      simp only [Datum.order]
      have hl := big b hb ib
      unfold svW cmpI
      rw [ea]
      cases sgW a <;> cases sgW b <;> simp only [Bool.false_eq_true, if_false, if_true]
      · rw [if_neg (by omega), if_neg (by omega)]
      · rw [if_neg (by omega), if_neg (by omega)]
      · rw [if_pos (by omega)]
      · rw [if_pos (by omega)]
  · rw [read_fin (fin_of ha ia)]
    by_cases ib : isInfW b
    · rw [read_inf ib]
      have eb : mgW b = infB := ib
      simp only [Datum.order]
      have hl := big a ha ia
      unfold svW cmpI
      rw [eb]
      cases sgW a <;> cases sgW b <;> simp only [Bool.false_eq_true, if_false, if_true]
      · rw [if_pos (by omega)]
      · rw [if_neg (by omega), if_neg (by omega)]
      · rw [if_pos (by omega)]
      · rw [if_neg (by omega), if_neg (by omega)]
    · rw [read_fin (fin_of hb ib)]
      simp only [Datum.order, cmp_I]
      have h1 := pE_ge a
      have h2 := pE_ge b
      rw [← cmpI_mul _ _ (c := ((2 ^ (min (pE a) (pE b) + 1074).toNat : Nat) : Int)) (by have := Nat.two_pow_pos (min (pE a) (pE b) + 1074).toNat; omega), signed_mul, signed_mul]
      rw [show (pE a - min (pE a) (pE b)).toNat + (min (pE a) (pE b) + 1074).toNat = (pE a + 1074).toNat by omega, show (pE b - min (pE a) (pE b)).toNat + (min (pE a) (pE b) + 1074).toNat = (pE b + 1074).toNat by omega, sv_fin, sv_fin]
/-- numm.less. -/
def keyW (a : Nat) : Nat := if 9223372036854775808 ≤ a then 18446744073709551615 - a else a + 9223372036854775808
def lessW (a b : Nat) : Bool := if isZW a ∧ isZW b then false else decide (keyW a < keyW b)
def eqW (a b : Nat) : Bool := if a = b then true else decide (isZW a ∧ isZW b)
theorem sg_iff {a : Nat} (h : a < 18446744073709551616) : sgW a = true ↔ 9223372036854775808 ≤ a := by
  unfold sgW
  constructor
  · intro q
    have : a / 9223372036854775808 % 2 = 1 := by simpa using q
    omega
  · intro q
    have : a / 9223372036854775808 % 2 = 1 := by omega
    rw [this]; rfl
theorem sv_eq {a b : Nat} (ha : a < 18446744073709551616) (hb : b < 18446744073709551616) : svW a = svW b ↔ eqW a b = true := by
  have hz : ∀ r, vG r = 0 ↔ r = 0 := fun r => by rw [show (0 : Nat) = vG 0 from rfl, vG_eq]; exact Iff.rfl
  have za := hz (mgW a)
  have zb := hz (mgW b)
  have ev := vG_eq (r := mgW a) (s := mgW b)
  have sa := sg_iff ha
  have sb := sg_iff hb
  have key : svW a = svW b ↔ a = b ∨ (isZW a ∧ isZW b) := by
    unfold svW isZW
    by_cases c1 : sgW a = true
    · rw [if_pos c1]
      have c1' := sa.1 c1
      by_cases c2 : sgW b = true
      · rw [if_pos c2]
        have c2' := sb.1 c2
        unfold mgW at *
        omega
      · rw [if_neg c2]
        have c2' : ¬ 9223372036854775808 ≤ b := fun q => c2 (sb.2 q)
        unfold mgW at *
        omega
    · rw [if_neg c1]
      have c1' : ¬ 9223372036854775808 ≤ a := fun q => c1 (sa.2 q)
      by_cases c2 : sgW b = true
      · rw [if_pos c2]
        have c2' := sb.1 c2
        unfold mgW at *
        omega
      · rw [if_neg c2]
        have c2' : ¬ 9223372036854775808 ≤ b := fun q => c2 (sb.2 q)
        unfold mgW at *
        omega
  rw [key]
  unfold eqW
  by_cases c : a = b
  · rw [if_pos c]; exact ⟨fun _ => rfl, fun _ => Or.inl c⟩
  · rw [if_neg c, decide_eq_true_iff]; exact ⟨fun q => q.elim (fun q => absurd q c) id, Or.inr⟩
theorem sv_lt {a b : Nat} (ha : a < 18446744073709551616) (hb : b < 18446744073709551616) : svW a < svW b ↔ lessW a b = true := by
  have hz : ∀ r, vG r = 0 ↔ r = 0 := fun r => by rw [show (0 : Nat) = vG 0 from rfl, vG_eq]; exact Iff.rfl
  have za := hz (mgW a)
  have zb := hz (mgW b)
  have ev := vG_lt (r := mgW a) (s := mgW b)
  have ev2 := vG_lt (r := mgW b) (s := mgW a)
  have sa := sg_iff ha
  have sb := sg_iff hb
  unfold lessW
  by_cases z : isZW a ∧ isZW b
  · rw [if_pos z]
    have : svW a = svW b := (sv_eq ha hb).2 (by unfold eqW; split; rfl; exact decide_eq_true z)
    rw [this]
    exact ⟨fun q => absurd q (by omega), fun q => by cases q⟩
  · rw [if_neg z, decide_eq_true_iff]
    unfold svW isZW keyW at *
    by_cases c1 : sgW a = true
    · rw [if_pos c1]
      have c1' := sa.1 c1
      rw [if_pos c1']
      by_cases c2 : sgW b = true
      · rw [if_pos c2]
        have c2' := sb.1 c2
        rw [if_pos c2']
        unfold mgW at *
        omega
      · rw [if_neg c2]
        have c2' : ¬ 9223372036854775808 ≤ b := fun q => c2 (sb.2 q)
        rw [if_neg c2']
        unfold mgW at *
        omega
    · rw [if_neg c1]
      have c1' : ¬ 9223372036854775808 ≤ a := fun q => c1 (sa.2 q)
      rw [if_neg c1']
      by_cases c2 : sgW b = true
      · rw [if_pos c2]
        have c2' := sb.1 c2
        rw [if_pos c2']
        unfold mgW at *
        omega
      · rw [if_neg c2]
        have c2' : ¬ 9223372036854775808 ≤ b := fun q => c2 (sb.2 q)
        rw [if_neg c2']
        unfold mgW at *
        omega
/-- numm.Cmp. -/
def cmpW (op : Int) (a b : Nat) : Bool :=
  if isNaNW a ∨ isNaNW b then decide (op = 2)
  else if op = 1 then eqW a b
  else if op = 2 then !eqW a b
  else if op = 3 then lessW a b
  else if op = 4 then (if eqW a b = true then true else lessW a b)
  else if op = 5 then lessW b a
  else if op = 6 then (if eqW a b = true then true else lessW b a)
  else false
theorem eqW_comm (a b : Nat) : eqW a b = eqW b a := by
  unfold eqW
  by_cases c : a = b
  · rw [if_pos c, if_pos c.symm]
  · rw [if_neg c, if_neg (fun q => c q.symm)]; exact decide_eq_decide.2 ⟨fun q => ⟨q.2, q.1⟩, fun q => ⟨q.2, q.1⟩⟩
theorem cmpW_ok (op : Int) {a b : Nat} (ha : a < 18446744073709551616) (hb : b < 18446744073709551616) : cmpW op a b = cmpM op a b := by
  unfold cmpW cmpM
  by_cases n : isNaNW a ∨ isNaNW b
  · rw [if_pos n, ford_nan n]
    by_cases c2 : op = 2
    · subst c2; simp
    · simp [c2]
  · rw [if_neg n, ord_key (fun q => n (Or.inl q)) (fun q => n (Or.inr q))]
    have h1 := sv_eq ha hb
    have h2 := sv_lt ha hb
    have h3 := sv_lt hb ha
    have e1 : (some (cmpI (svW a) (svW b)) = some Ordering.eq) ↔ eqW a b = true := by
      rw [← h1, Option.some.injEq]; unfold cmpI; split
      · constructor
        · intro q; cases q
        · intro q; omega
      · split
        · exact ⟨fun _ => by assumption, fun _ => rfl⟩
        · constructor
          · intro q; cases q
          · intro q; omega
    have e2 : (some (cmpI (svW a) (svW b)) = some Ordering.lt) ↔ lessW a b = true := by
      rw [← h2, Option.some.injEq]; unfold cmpI; split
      · exact ⟨fun _ => by assumption, fun _ => rfl⟩
      · split
        · constructor
          · intro q; cases q
          · intro q; omega
        · constructor
          · intro q; cases q
          · intro q; omega
    have e3 : (some (cmpI (svW a) (svW b)) = some Ordering.gt) ↔ lessW b a = true := by
      rw [← h3, Option.some.injEq]; unfold cmpI; split
      · constructor
        · intro q; cases q
        · intro q; omega
      · split
        · constructor
          · intro q; cases q
          · intro q; omega
        · exact ⟨fun _ => by omega, fun _ => rfl⟩
    simp only [e1, e2, e3, ne_eq]
    cases eqW a b <;> cases lessW a b <;> cases lessW b a <;> simp
theorem negM_ok {a : Nat} (h : a < 18446744073709551616) : negM a = if isNaNW a then nanW else flipW a := by
  have e : Op.negFloat .f64 a = flipW a := by
    show a ^^^ 2 ^ 63 = flipW a
    unfold flipW
    apply Nat.eq_of_testBit_eq
    intro i
    rw [Nat.testBit_xor, Nat.testBit_two_pow]
    split
    · rename_i c
      have e2 := Nat.two_pow_add_eq_or_of_lt (i := 63) (b := a) (by simpa using c) 1
      rw [Nat.mul_one] at e2
      rw [show a + 9223372036854775808 = 2 ^ 63 + a by omega, e2, Nat.testBit_or, Nat.testBit_two_pow]
      by_cases q : 63 = i
      · subst q; rw [Nat.testBit_lt_two_pow (by simpa using c)]; simp
      · simp [q]
    · rename_i c
      have e3 : a - 9223372036854775808 < 2 ^ 63 := by omega
      have e2 := Nat.two_pow_add_eq_or_of_lt (i := 63) (b := a - 9223372036854775808) e3 1
      rw [Nat.mul_one] at e2
      have e4 : a = 2 ^ 63 ||| (a - 9223372036854775808) := by rw [← e2]; omega
      conv => lhs; rw [e4]
      rw [Nat.testBit_or, Nat.testBit_two_pow]
      by_cases q : 63 = i
      · subst q; rw [Nat.testBit_lt_two_pow e3]; simp
      · simp [q]
  unfold negM
  rw [e]
  have hm := (flip_mg h).1
  by_cases c : isNaNW a
  · rw [if_pos c]
    unfold bitsM
    rw [ford_nan (Or.inl (by unfold isNaNW; rw [hm]; exact c)), if_pos (by simp)]
  · rw [if_neg c]
    exact bits_id (by unfold isNaNW; rw [hm]; exact c)
theorem fromInt_ok (i : Int) (h1 : -9223372036854775808 ≤ i) (h2 : i ≤ 9223372036854775807) : FloatKind.f64.nearest i = pkM (decide (i < 0)) i.natAbs 0 false := by
  rw [pack_exact _ (by omega)]; rfl
end Go.Nm
