/- Plain: numbers: every answer is there, and is in form. -/
import Derived.Test.Qxb6500573aGreatDoorBV
import Derived.Test.Qxb6500573aGreatDoorWNumE
import Derived.Laws.FloatBits
set_option linter.unusedSimpArgs false
set_option linter.unusedVariables false
set_option linter.unusedSectionVars false
set_option exponentiation.threshold 4000
namespace Go.Wl
open Go Go.Sl Go.Proofs
set_option linter.unusedVariables false
/-- A number's bits in form: no NaN but the one. -/
def numOk (n : Int) : Prop := (0 ≤ n ∧ n < 18446744073709551616) ∧ (cmpM 2 n.toNat n.toNat = false ∨ n = 9221120237041090561)
theorem width64 : 2 ^ Ieee.double.width = 18446744073709551616 := by decide
theorem cmp2 (x : Nat) : cmpM 2 x x = decide (ford x x ≠ some .eq) := rfl
/-- No NaN: it is equal to itself. -/
theorem ford_ok {x : Nat} (h : x < 18446744073709551616) (h2 : x % 9223372036854775808 ≤ 9218868437227405312) : ford x x = some .eq := by
  by_cases h1 : x < 9223372036854775808
  · rw [Nat.mod_eq_of_lt h1] at h2
    by_cases h3 : x < 9218868437227405312
    · exact ford_self h3
    · have e : x = 9218868437227405312 := by omega
      rw [e]
      have q : ford 9218868437227405312 9218868437227405312 = some .eq := by kernel_rfl
      exact q
  · by_cases h3 : x - 9223372036854775808 < 9218868437227405312
    · have := (ford_neg_max h3).2.2
      rwa [show 9223372036854775808 + (x - 9223372036854775808) = x from by omega] at this
    · have e : x = 18442240474082181120 := by omega
      rw [e]
      have q : ford 18442240474082181120 18442240474082181120 = some .eq := by kernel_rfl
      exact q
theorem ford_nan {x : Nat} (h2 : 9218868437227405312 < x % 9223372036854775808) : ford x x ≠ some .eq := nan_not (nan_read h2)
theorem numOk_of {x : Nat} (h : x < 18446744073709551616) (h2 : x % 9223372036854775808 ≤ 9218868437227405312) : numOk (x : Int) := ⟨by omega, .inl (by rw [Int.toNat_natCast, cmp2, decide_eq_false]; exact fun q => q (ford_ok h h2))⟩
theorem bits_ok {r : Nat} (h : r < 18446744073709551616) : numOk (bitsM r : Nat) := by
  unfold bitsM
  by_cases hr : ford r r = some .eq
  · rw [if_neg (fun q => q hr)]
    exact ⟨by omega, .inl (by rw [Int.toNat_natCast, cmp2, decide_eq_false]; exact fun q => q hr)⟩
  · rw [if_pos hr]
    exact ⟨by decide, .inr rfl⟩
theorem arith_ok (op : Int) (a b : Nat) : numOk (arithT op a b : Nat) := by
  have hn : numOk ((nanB : Nat) : Int) := ⟨by decide, .inr rfl⟩
  have hm : ∀ {o : Option Nat}, (∀ r, o = some r → r < 18446744073709551616) → numOk (((o.map bitsM).getD nanB : Nat) : Int) := fun {o} ho => by
    cases o with
    | none => exact hn
    | some r => exact bits_ok (ho r rfl)
  unfold arithT arithM
  split
  · exact hm fun r hr => by have := Ieee.Format.add_lt _ hr; rwa [show (FloatKind.f64.format : Ieee.Format) = Ieee.double from rfl, width64] at this
  split
  · exact hm fun r hr => by have := Ieee.Format.sub_lt _ hr; rwa [show (FloatKind.f64.format : Ieee.Format) = Ieee.double from rfl, width64] at this
  split
  · exact hm fun r hr => by have := Ieee.Format.mul_lt _ hr; rwa [show (FloatKind.f64.format : Ieee.Format) = Ieee.double from rfl, width64] at this
  split
  · exact hm fun r hr => by have := Ieee.Format.div_lt _ hr; rwa [show (FloatKind.f64.format : Ieee.Format) = Ieee.double from rfl, width64] at this
  split
  · refine hm fun r hr => ?_
    unfold floorDiv at hr
    split at hr
    · split at hr
      · injection hr with hr
        rw [← hr]
        have := Ieee.Format.write_lt Ieee.double ((FloatKind.f64.decode (by assumption)).integral .down)
        rw [width64] at this
        exact this
      · cases hr
    · cases hr
  split
  · split
    · split
      · exact hm fun r hr => by have := Ieee.Format.sub_lt _ hr; rwa [show (FloatKind.f64.format : Ieee.Format) = Ieee.double from rfl, width64] at this
      · exact hn
    · exact hn
  · exact hn
theorem neg_lt64 {x : Nat} (h : x < 18446744073709551616) : Op.negFloat .f64 x < 18446744073709551616 := by
  have e0 : Op.negFloat .f64 x = x ^^^ 2 ^ 63 := rfl
  rw [e0]
  have := Nat.xor_lt_two_pow (n := 64) (x := x) (y := 2 ^ 63) (by omega) (by decide)
  omega
theorem neg_ok {x : Nat} (h : x < 18446744073709551616) : numOk (negM x : Nat) := bits_ok (neg_lt64 h)
theorem negF63 {x : Nat} (hx : x < 9223372036854775808) : Op.negFloat .f64 x = 9223372036854775808 + x := by
  have e0 : ∀ n, Op.negFloat .f64 n = n ^^^ 2 ^ 63 := fun n => rfl
  rw [e0]
  have h := Nat.two_pow_add_eq_or_of_lt (i := 63) (b := x) (by omega) 1
  rw [Nat.mul_one] at h
  rw [show (9223372036854775808 : Nat) = 2 ^ 63 from by decide, h]
  apply Nat.eq_of_testBit_eq
  intro i
  rw [Nat.testBit_or, Nat.testBit_xor, Nat.testBit_two_pow]
  by_cases hi : 63 = i
  · subst hi
    rw [Nat.testBit_lt_two_pow (by omega)]
    rfl
  · rw [decide_eq_false hi]
    simp
theorem near_ok {n : Nat} (h : n ≤ 9007199254740992) : FloatKind.f64.nearest (n : Int) < 9218868437227405312 := by
  by_cases h0 : n = 0
  · subst h0
    have e : FloatKind.f64.nearest ((0 : Nat) : Int) = 0 := by kernel_rfl
    rw [e]; decide
  · by_cases h1 : n < 9007199254740992
    · rw [near_nat h0 h1]
      exact (rgN_parts h0 h1).1
    · have : n = 9007199254740992 := by omega
      subst this
      have e : FloatKind.f64.nearest ((9007199254740992 : Nat) : Int) = two53 := by kernel_rfl
      rw [e]; decide
theorem numI_ok {n : Nat} (h : n ≤ 9007199254740992) : numOk (FloatKind.f64.nearest (n : Int) : Nat) := by
  have := near_ok h
  exact numOk_of (by omega) (by omega)
/-- Every number has a text. -/
theorem format_all {x : Nat} (h : x < 18446744073709551616) : ∃ t, formatM x = some t ∧ t.length ≤ 24 := by
  by_cases hn : 9218868437227405312 < x % 9223372036854775808
  · exact ⟨[110, 97, 110], by unfold formatM; rw [if_pos (ford_nan hn)], by decide⟩
  · by_cases h1 : x < 9223372036854775808
    · by_cases h3 : x < 9218868437227405312
      · obtain ⟨t, h4, _, h5, _⟩ := fmt_all h3
        exact ⟨t, h4, by omega⟩
      · have : x = 9218868437227405312 := by omega
        subst this
        exact ⟨[105, 110, 102], by kernel_rfl, by decide⟩
    · by_cases h3 : x - 9223372036854775808 < 9218868437227405312
      · obtain ⟨t, _, _, h5, _, h4⟩ := fmt_all h3
        have e : negM (x - 9223372036854775808) = x := by
          unfold negM bitsM
          rw [(negF h3).1, if_neg (fun q => q (ford_neg_max h3).2.2)]
          omega
        rw [e] at h4
        exact ⟨_, h4, by simp; omega⟩
      · have : x = 18442240474082181120 := by omega
        subst this
        exact ⟨[45, 105, 110, 102], by kernel_rfl, by decide⟩
theorem cut_zero (neg : Bool) (n d : Nat) : Ieee.Toward.zero.cut neg n d = n / (1 <<< min d (n.log2 + 2)) := by
  unfold Ieee.Toward.cut
  rfl
theorem cut_le (neg : Bool) (n d : Nat) : Ieee.Toward.zero.cut neg n d * 2 ^ d ≤ n := by
  rw [cut_zero, Nat.shiftLeft_eq, Nat.one_mul]
  by_cases h : d ≤ n.log2 + 2
  · rw [Nat.min_eq_left h]
    exact Nat.div_mul_le_self n (2 ^ d)
  · rw [Nat.min_eq_right (by omega)]
    have : n < 2 ^ (n.log2 + 2) := by
      by_cases h0 : n = 0
      · subst h0; exact Nat.two_pow_pos _
      · have := (Nat.log2_lt h0 (k := n.log2 + 1)).1 (by omega)
        exact Nat.lt_trans this (Nat.pow_lt_pow_right (by decide) (by omega))
    rw [Nat.div_eq_of_lt this, Nat.zero_mul]
    exact Nat.zero_le _
theorem fl_vl {x : Nat} : flN x * 2 ^ 1074 ≤ vl x := by
  have h := cut_le false (mg x <<< (pl x).toNat) (-(pl x)).toNat
  have h1 := pl_ge x
  unfold flN vl
  generalize Ieee.Toward.zero.cut false (mg x <<< (pl x).toNat) (-(pl x)).toNat = c at h
  rw [Nat.shiftLeft_eq] at h
  have h2 := Nat.mul_le_mul_right (2 ^ (1074 - (-(pl x)).toNat)) h
  rw [Nat.mul_assoc, ← Nat.pow_add, Nat.mul_assoc, ← Nat.pow_add] at h2
  rw [show (-(pl x)).toNat + (1074 - (-(pl x)).toNat) = 1074 from by omega] at h2
  rw [show (pl x).toNat + (1074 - (-(pl x)).toNat) = (pl x + 1074).toNat from by omega] at h2
  exact h2
theorem vl53 : vl two53 = 9007199254740992 * 2 ^ 1074 := by
  have h := near_ok (n := 9007199254740992) (Nat.le_refl _)
  unfold vl
  rw [show mg two53 = 4503599627370496 from by decide, show pl two53 = 1 from by decide, show (4503599627370496 : Nat) = 2 ^ 52 from by decide, show (9007199254740992 : Nat) = 2 ^ 53 from by decide, ← Nat.pow_add, ← Nat.pow_add]
  rfl
theorem fl_le {x : Nat} (hv : vl x ≤ vl two53) : flN x ≤ 9007199254740992 := by
  have h := Nat.le_trans fl_vl hv
  rw [vl53] at h
  exact Nat.le_of_mul_le_mul_right h (Nat.two_pow_pos _)
theorem ford_negs {x y : Nat} (hx : x < 9218868437227405312) (hy : y < 9218868437227405312) : ford (9223372036854775808 + x) (9223372036854775808 + y) = some (compare (-((vl x : Nat) : Int)) (-((vl y : Nat) : Int))) := by
  have hs : ∀ (m k : Nat), Ieee.signed true m k = -((m * 2 ^ k : Nat) : Int) := fun m k => by
    unfold Ieee.signed
    rw [if_pos rfl, shl_eq]
  show (FloatKind.f64.decode _).order (FloatKind.f64.decode _) = _
  rw [read_neg hx, read_neg hy]
  unfold Ieee.Datum.order
  dsimp only
  rw [hs, hs]
  congr 1
  have h1 := pl_ge x
  have h2 := pl_ge y
  have ca : mg x * 2 ^ (pl x - min (pl x) (pl y)).toNat * 2 ^ (min (pl x) (pl y) + 1074).toNat = vl x := by
    unfold vl
    rw [Nat.mul_assoc, ← Nat.pow_add]
    congr 2
    omega
  have cb : mg y * 2 ^ (pl y - min (pl x) (pl y)).toNat * 2 ^ (min (pl x) (pl y) + 1074).toNat = vl y := by
    unfold vl
    rw [Nat.mul_assoc, ← Nat.pow_add]
    congr 2
    omega
  rw [← ca, ← cb]
  generalize mg x * 2 ^ (pl x - min (pl x) (pl y)).toNat = a
  generalize mg y * 2 ^ (pl y - min (pl x) (pl y)).toNat = c
  have hp : 0 < 2 ^ (min (pl x) (pl y) + 1074).toNat := Nat.two_pow_pos _
  generalize 2 ^ (min (pl x) (pl y) + 1074).toNat = p at hp
  show (if (-(a : Int)) < (-(c : Int)) then Ordering.lt else if (-(a : Int)) = (-(c : Int)) then .eq else .gt) = (if (-((a * p : Nat) : Int)) < (-((c * p : Nat) : Int)) then Ordering.lt else if (-((a * p : Nat) : Int)) = (-((c * p : Nat) : Int)) then .eq else .gt)
  by_cases h : c < a
  · have h' : c * p < a * p := Nat.mul_lt_mul_of_pos_right h hp
    have q1 : (-(a : Int)) < (-(c : Int)) := by omega
    have q2 : (-((a * p : Nat) : Int)) < (-((c * p : Nat) : Int)) := by omega
    rw [if_pos q1, if_pos q2]
  · have h' : a * p ≤ c * p := Nat.mul_le_mul_right p (Nat.not_lt.1 h)
    have q1 : ¬ (-(a : Int)) < (-(c : Int)) := by omega
    have q2 : ¬ (-((a * p : Nat) : Int)) < (-((c * p : Nat) : Int)) := by omega
    rw [if_neg q1, if_neg q2]
    by_cases h3 : a = c
    · subst h3
      rw [if_pos rfl, if_pos rfl]
    · have h4 : a * p ≠ c * p := fun e => h3 (Nat.eq_of_mul_eq_mul_right hp e)
      have q3 : ¬ (-(a : Int)) = (-(c : Int)) := by omega
      have q4 : ¬ (-((a * p : Nat) : Int)) = (-((c * p : Nat) : Int)) := by omega
      rw [if_neg q3, if_neg q4]
theorem cmp_negle {a b : Nat} (h : compare (-(a : Int)) (-(b : Int)) = .gt ∨ compare (-(a : Int)) (-(b : Int)) = .eq) : a ≤ b := by
  refine Decidable.byContradiction fun q => ?_
  have : compare (-(a : Int)) (-(b : Int)) = .lt := by
    show (if (-(a : Int)) < (-(b : Int)) then Ordering.lt else if (-(a : Int)) = (-(b : Int)) then .eq else .gt) = .lt
    rw [if_pos (by omega)]
  rw [this] at h
  rcases h with h | h <;> cases h
/-- Every number in the range of the whole numbers is read. -/
theorem toInt_all {x : Nat} (h : x < 18446744073709551616) : ∃ r, toIntM x = some r := by
  by_cases hr : inR x
  · obtain ⟨i, hi, hb⟩ : ∃ i, (FloatKind.f64.decode x).toInt .zero = some i ∧ -9223372036854775808 ≤ i ∧ i ≤ 9223372036854775807 := by
      obtain ⟨hr1, hr2⟩ := hr
      by_cases h1 : x < 9218868437227405312
      · have h53 : two53 < 9218868437227405312 := by decide
        rw [ford_vl h1 h53] at hr2
        have hv : vl x ≤ vl two53 := by
          rcases hr2 with e | e
          · injection e with e; exact Nat.le_of_lt (cmp_lt.1 e)
          · injection e with e; exact Nat.le_of_eq (cmp_eq.1 e)
        have := fl_le hv
        exact ⟨_, toInt_fl h1, by omega, by omega⟩
      · by_cases h2 : 9223372036854775808 ≤ x ∧ x - 9223372036854775808 < 9218868437227405312
        · obtain ⟨y, rfl⟩ : ∃ y, x = 9223372036854775808 + y := ⟨x - 9223372036854775808, by omega⟩
          have hy : y < 9218868437227405312 := by omega
          have e53 : ntwo53 = 9223372036854775808 + two53 := by decide
          rw [e53, ford_negs hy (by decide)] at hr1
          have hv : vl y ≤ vl two53 := by
            rcases hr1 with e | e
            · injection e with e
              exact cmp_negle (.inl e)
            · injection e with e
              exact cmp_negle (.inr e)
          have := fl_le hv
          refine ⟨-((flN y : Nat) : Int), ?_, by omega, by omega⟩
          rw [read_neg hy]
          show some (Ieee.signed true (Ieee.Toward.zero.cut true (mg y <<< (pl y).toNat) (-(pl y)).toNat) 0) = _
          have e : Ieee.Toward.zero.cut true (mg y <<< (pl y).toNat) (-(pl y)).toNat = flN y := by unfold flN; rw [cut_zero, cut_zero]
          rw [e]
          unfold Ieee.signed
          rw [if_pos rfl, shl_eq, Nat.pow_zero, Nat.mul_one]
        · exfalso
          by_cases hn : 9218868437227405312 < x % 9223372036854775808
          · have := nan_ford (b := two53) (nan_read hn)
            rw [this] at hr2
            rcases hr2 with e | e <;> cases e
          · have : x = 9218868437227405312 ∨ x = 18442240474082181120 := by omega
            rcases this with rfl | rfl
            · have e : ford 9218868437227405312 two53 = some .gt := by kernel_rfl
              rw [e] at hr2
              rcases hr2 with e | e <;> cases e
            · have e : ford 18442240474082181120 ntwo53 = some .lt := by kernel_rfl
              rw [e] at hr1
              rcases hr1 with e | e <;> cases e
    unfold toIntM
    rw [if_pos hr, hi]
    dsimp only
    rw [if_pos hb]
    split <;> exact ⟨_, rfl⟩
  · exact ⟨(0, false), by unfold toIntM; rw [if_neg hr]⟩
/-- A whole number above nought has one spelling. -/
theorem toInt_inj {x : Nat} {i : Int} (hx : x < 18446744073709551616) (h : toIntM x = some (i, true)) (hi : 0 < i) (hi2 : i < 9007199254740992) : x = FloatKind.f64.nearest i := by
  unfold toIntM at h
  split at h
  · rename_i hr
    split at h
    · rename_i j hj
      split at h
      · split at h
        · cases h
        · rename_i hne
          have hf : ford (FloatKind.f64.nearest j) x = some .eq := Decidable.not_not.1 hne
          injection h with h
          injection h with h _
          subst h
          by_cases h1 : x < 9218868437227405312
          · obtain ⟨n, rfl⟩ : ∃ n : Nat, j = n := ⟨j.toNat, by omega⟩
            have hn := near_ok (n := n) (by omega)
            rw [ford_vl hn h1] at hf
            injection hf with hf
            have hv := cmp_eq.1 hf
            rw [near_nat (by omega) (by omega), vl_rgN (by omega) (by omega)] at hv
            exact (near_of_vl h1 hv.symm).symm
          · exfalso
            by_cases h2 : 9223372036854775808 ≤ x ∧ x - 9223372036854775808 < 9218868437227405312
            · obtain ⟨y, rfl⟩ : ∃ y, x = 9223372036854775808 + y := ⟨x - 9223372036854775808, by omega⟩
              have hy : y < 9218868437227405312 := by omega
              rw [read_neg hy] at hj
              have hj' : some (Ieee.signed true (Ieee.Toward.zero.cut true (mg y <<< (pl y).toNat) (-(pl y)).toNat) 0) = some j := hj
              injection hj' with hj'
              unfold Ieee.signed at hj'
              rw [if_pos rfl] at hj'
              omega
            · by_cases hn : 9218868437227405312 < x % 9223372036854775808
              · have e := nan_ford (b := two53) (nan_read hn)
                obtain ⟨_, hr2⟩ := hr
                rw [e] at hr2
                rcases hr2 with e | e <;> cases e
              · have : x = 9218868437227405312 ∨ x = 18442240474082181120 := by omega
                rcases this with rfl | rfl
                · cases hj
                · cases hj
      · cases h
    · cases h
  · injection h with h
    injection h with _ h
    cases h
end Go.Wl
