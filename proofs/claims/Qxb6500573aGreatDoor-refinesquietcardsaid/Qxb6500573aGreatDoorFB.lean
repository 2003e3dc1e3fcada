/- Plain: numbers: every text is read or refused. -/
import Derived.Test.Qxb6500573aGreatDoorFA
namespace Go.Wl
open Go Go.Sl Go.Proofs
set_option linter.unusedVariables false
/-- Bits in form, no NaN. -/
def finOk (r : Nat) : Prop := r < 18446744073709551616 ∧ r % 9223372036854775808 ≤ 9218868437227405312
theorem nearD_ok (neg : Bool) (mag : Nat) (place : Int) : finOk (Ieee.double.nearest neg mag place) := by
  have hw : ∀ (neg : Bool) (r : Nat), r ≤ 9218868437227405312 → finOk (Ieee.double.word neg r) := fun neg r hr => by
    unfold Ieee.Format.word finOk
    rw [fs]
    cases neg
    · rw [if_neg (by decide)]; omega
    · rw [if_pos rfl]; omega
  unfold Ieee.Format.nearest
  split
  · exact hw _ _ (by decide)
  · dsimp only
    refine hw _ _ ?_
    rw [← fi]
    exact Nat.min_le_right _ _
theorem fdiv_ok {x y : Nat} (hx : x < 9218868437227405312) (hy : y < 9218868437227405312) (h0 : mg y ≠ 0) : ∃ r, fdiv x y = some r ∧ finOk r := by
  have e : fdiv x y = ((FloatKind.f64.decode x).quotient (52 + 2) (FloatKind.f64.decode y)).map Ieee.double.write := rfl
  rw [e, read_fin hx, read_fin hy]
  unfold Ieee.Datum.quotient
  dsimp only
  rw [if_neg h0]
  exact ⟨_, rfl, nearD_ok _ _ _⟩
theorem fmul_ok {x y : Nat} (hx : x < 9218868437227405312) (hy : y < 9218868437227405312) : ∃ r, FloatKind.f64.format.mul x y = some r ∧ finOk r := by
  have e : FloatKind.f64.format.mul x y = ((FloatKind.f64.decode x).product (FloatKind.f64.decode y)).map Ieee.double.write := rfl
  rw [e, read_fin hx, read_fin hy]
  unfold Ieee.Datum.product
  dsimp only
  exact ⟨_, rfl, nearD_ok _ _ _⟩
theorem ford_pos {f : Nat} (h : f < 9218868437227405312) : ford f 0 ≠ some .lt := by
  rw [ford_vl h (by decide)]
  intro e
  injection e with e
  rw [cmp_lt] at e
  have e0 : vl 0 = 0 := by unfold vl; rw [show mg 0 = 0 from by decide, Nat.zero_mul]
  omega
theorem ldexp_core {f : Nat} (e : Int) (hf : f < 9218868437227405312) (k1 : ¬ ford f 0 = some .eq) (k2 : ¬ (ford f maxFin = some .gt ∨ ford f f ≠ some .eq)) (k3 : ¬ ford f 4503599627370496 = some .lt) : ∃ r, ldexpM f e = some r ∧ finOk r := by
  have e63 := and63 (f := f) (by omega)
  have eE := andE (f := f) (by omega)
  unfold ldexpM
  rw [if_neg (by omega), if_neg k1, e63, if_neg k2, if_neg k3]
  dsimp only
  generalize e + (((f / 2 ^ 52 % 2048 : Nat) : Int) - 1023) = e1
  by_cases h1 : e1 < -1075
  · rw [if_pos h1, if_pos (by omega)]
    exact ⟨0, rfl, by unfold finOk; decide⟩
  · rw [if_neg h1]
    by_cases h2 : 1023 < e1
    · rw [if_pos h2, if_pos (ford_pos hf)]
      exact ⟨_, rfl, by unfold finOk; decide⟩
    · rw [if_neg h2, eE]
      by_cases h3 : e1 < -1022
      · rw [if_pos h3, if_pos h3]
        obtain ⟨k, hk⟩ : ∃ k : Nat, e1 + 53 + 1023 = k := ⟨(e1 + 53 + 1023).toNat, by omega⟩
        rw [hk, ar9, orE (by omega) (by omega)]
        exact fmul_ok (by decide) (by omega)
      · rw [if_neg h3, if_neg h3]
        obtain ⟨k, hk⟩ : ∃ k : Nat, e1 + 1023 = k := ⟨(e1 + 1023).toNat, by omega⟩
        rw [hk, ar9, orE (by omega) (by omega)]
        exact fmul_ok (by decide) (by omega)
theorem ldexp_all {n : Nat} (e : Int) (h : n ≤ 9007199254740992) : ∃ r, ldexpM (FloatKind.f64.nearest (n : Int)) e = some r ∧ finOk r := by
  by_cases h0 : n = 0
  · subst h0
    have e0 : FloatKind.f64.nearest ((0 : Nat) : Int) = 0 := by kernel_rfl
    rw [e0]
    refine ⟨0, ?_, by unfold finOk; decide⟩
    unfold ldexpM
    rw [if_neg (by decide), if_pos (by kernel_rfl)]
  · by_cases h1 : n < 9007199254740992
    · rw [near_nat h0 h1]
      exact ldexp_core e (rgN_parts h0 h1).1 (rg_ne0 h0 h1) (rg_max h0 h1) (rg_min h0 h1)
    · have : n = 9007199254740992 := by omega
      subst this
      have e0 : FloatKind.f64.nearest ((9007199254740992 : Nat) : Int) = two53 := by kernel_rfl
      rw [e0]
      have q1 : ford two53 0 = some .gt := by kernel_rfl
      have q2 : ford two53 maxFin = some .lt := by kernel_rfl
      have q3 : ford two53 two53 = some .eq := by kernel_rfl
      have q4 : ford two53 4503599627370496 = some .gt := by kernel_rfl
      exact ldexp_core e (by decide) (by rw [q1]; decide) (by rw [q2, q3]; decide) (by rw [q4]; decide)
theorem runD_one (l : List UInt8) (m : Nat) : (runD l m).2.1 ≤ l.length := by have := (runD_len l m).1; omega
theorem pow10_le {k : Nat} (h : k ≤ 15) : (10 : Nat) ^ k ≤ 9007199254740992 ∧ 0 < 10 ^ k := ⟨Nat.le_trans (Nat.pow_le_pow_right (by decide) h) (by decide), Nat.pow_pos (by decide)⟩
/-- magnitude. -/
theorem mag_all (s : List UInt8) : ∃ f ok, magM s = some (f, ok) ∧ (ok = true → finOk f) := by
  unfold magM
  by_cases h1 : s = [105, 110, 102]
  · rw [if_pos h1]
    exact ⟨_, _, rfl, fun _ => by unfold finOk; decide⟩
  rw [if_neg h1]
  dsimp only
  by_cases h2 : (runD s 0).2.1 = 0 ∨ 16 < (runD s 0).2.1
  · rw [if_pos h2]
    exact ⟨_, _, rfl, fun h => by cases h⟩
  rw [if_neg h2]
  cases h3 : (runD s 0).2.2 with
  | nil =>
    dsimp only
    refine ⟨_, _, rfl, fun h => ?_⟩
    have h := of_decide_eq_true h
    have := near_ok (n := (runD s 0).1) (by omega)
    unfold finOk
    omega
  | cons c l =>
    dsimp only
    by_cases h4 : (c.toNat : Int) = 46
    · rw [if_pos h4]
      by_cases h5 : (runD l (runD s 0).1).2.1 = 0 ∨ (runD l (runD s 0).1).2.2 ≠ [] ∨ 16 < (runD s 0).2.1 + (runD l (runD s 0).1).2.1 ∨ 9007199254740992 < (runD l (runD s 0).1).1
      · rw [if_pos h5]
        exact ⟨_, _, rfl, fun h => by cases h⟩
      · rw [if_neg h5]
        obtain ⟨p1, p2⟩ := pow10_le (k := (runD l (runD s 0).1).2.1) (by omega)
        have hz : mg (FloatKind.f64.nearest ((10 ^ (runD l (runD s 0).1).2.1 : Nat) : Int)) ≠ 0 := by
          refine mg_ne fun q => ?_
          by_cases h7 : 10 ^ (runD l (runD s 0).1).2.1 < 9007199254740992
          · rw [near_nat (by omega) h7] at q
            have := vl_rgN (n := 10 ^ (runD l (runD s 0).1).2.1) (by omega) h7
            rw [q] at this
            have e0 : vl 0 = 0 := by unfold vl; rw [show mg 0 = 0 from by decide, Nat.zero_mul]
            rw [e0] at this
            exact Nat.mul_ne_zero (by omega) (Nat.pos_iff_ne_zero.1 (Nat.two_pow_pos _)) this.symm
          · have : 10 ^ (runD l (runD s 0).1).2.1 = 9007199254740992 := by omega
            rw [this] at q
            revert q
            have e0 : FloatKind.f64.nearest ((9007199254740992 : Nat) : Int) = two53 := by kernel_rfl
            rw [e0]
            decide
        obtain ⟨r, hr, hr2⟩ := fdiv_ok (near_ok (n := (runD l (runD s 0).1).1) (by omega)) (near_ok p1) hz
        exact ⟨r, true, by rw [hr]; rfl, fun _ => hr2⟩
    · rw [if_neg h4]
      by_cases h5 : (c.toNat : Int) = 112
      · rw [if_pos h5]
        have key : ∀ down : Bool, ∃ f ok, (if (runD (if down = true then l.drop 1 else l) 0).2.1 = 0 ∨ 4 < (runD (if down = true then l.drop 1 else l) 0).2.1 ∨ (runD (if down = true then l.drop 1 else l) 0).2.2 ≠ [] ∨ 9007199254740992 < (runD s 0).1 then some (0, false)
          else (ldexpM (FloatKind.f64.nearest (runD s 0).1) (if down = true then -((runD (if down = true then l.drop 1 else l) 0).1 : Int) else (runD (if down = true then l.drop 1 else l) 0).1)).map fun x => (x, true)) = some (f, ok) ∧ (ok = true → finOk f) := fun down => by
          generalize hq : runD (if down = true then l.drop 1 else l) 0 = q
          by_cases h6 : q.2.1 = 0 ∨ 4 < q.2.1 ∨ q.2.2 ≠ [] ∨ 9007199254740992 < (runD s 0).1
          · rw [if_pos h6]
            exact ⟨_, _, rfl, fun h => by cases h⟩
          · rw [if_neg h6]
            obtain ⟨r, hr, hr2⟩ := ldexp_all (n := (runD s 0).1) (if down = true then -(q.1 : Int) else q.1) (by omega)
            exact ⟨r, true, by rw [hr]; rfl, fun _ => hr2⟩
        exact key _
      · rw [if_neg h5]
        exact ⟨_, _, rfl, fun h => by cases h⟩
theorem finOk.neg {x : Nat} (h : finOk x) : finOk (Op.negFloat .f64 x) := by
  refine ⟨neg_lt64 h.1, ?_⟩
  have e0 : Op.negFloat .f64 x = x ^^^ 2 ^ 63 := rfl
  have e1 : (x ^^^ 2 ^ 63) % 2 ^ 63 = x % 2 ^ 63 := by rw [Nat.xor_mod_two_pow, Nat.mod_self, Nat.xor_zero]
  rw [e0, show (9223372036854775808 : Nat) = 2 ^ 63 from by decide, e1]
  exact h.2
theorem finOk.num {x : Nat} (h : finOk x) : numOk (x : Int) := numOk_of h.1 h.2
/-- Every text is read or refused. -/
theorem parse_all (s : List UInt8) : ∃ f e, parseM s = some (f, e) ∧ (e = 0 ∨ e = 1 ∨ e = 2) ∧ (e = 0 → numOk (f : Nat)) := by
  unfold parseM
  by_cases h1 : 24 < s.length
  · rw [if_pos h1]
    exact ⟨_, _, rfl, .inr (.inl rfl), fun h => by cases h⟩
  rw [if_neg h1]
  by_cases h2 : s = [110, 97, 110]
  · rw [if_pos h2]
    exact ⟨_, _, rfl, .inl rfl, fun _ => ⟨by decide, .inr rfl⟩⟩
  rw [if_neg h2]
  dsimp only
  have key : ∀ neg : Bool, ∃ (f : Nat) (e : Int), (match magM (if neg = true then s.drop 1 else s) with
    | none => none
    | some (f, ok) => if ok = false then some (0, 2) else some (if neg = true then Op.negFloat .f64 f else f, 0)) = some (f, e) ∧ (e = 0 ∨ e = 1 ∨ e = 2) ∧ (e = 0 → numOk ((f : Nat) : Int)) := fun neg => by
    obtain ⟨f, ok, hm, hf⟩ := mag_all (if neg = true then s.drop 1 else s)
    rw [hm]
    dsimp only
    cases ok with
    | false => exact ⟨_, _, by rw [if_pos rfl], .inr (.inr rfl), fun h => by cases h⟩
    | true =>
      rw [if_neg (by decide)]
      refine ⟨_, _, rfl, .inl rfl, fun _ => ?_⟩
      split
      · exact (hf rfl).neg.num
      · exact (hf rfl).num
  exact key _
end Go.Wl
