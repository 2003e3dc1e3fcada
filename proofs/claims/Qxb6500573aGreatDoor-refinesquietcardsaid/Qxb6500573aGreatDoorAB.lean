/- Plain: package num. -/
import Derived.Test.Qxb6500573aGreatDoorWApi
import Derived.Test.Qxb6500573aGreatDoorFX
namespace Go.Wl
open Go Go.Sl
set_option linter.unusedVariables false
theorem u64n {n : Nat} (h : n < 18446744073709551616) : IntKind.u64.wrap (n : Int) = n := IntWalk.u64_in _ (by omega)
theorem quoU {a b : Nat} (h : a < 18446744073709551616) : IntKind.u64.wrap ((a : Int).tdiv (b : Int)) = ((a / b : Nat) : Int) := by
  rw [show (a : Int).tdiv (b : Int) = ((a / b : Nat) : Int) from rfl, u64n (Nat.lt_of_le_of_lt (Nat.div_le_self _ _) h)]
theorem remU (a b : Nat) : (a : Int).tmod (b : Int) = ((a % b : Nat) : Int) := rfl
theorem lt_of_quo {u j : Nat} (h : ¬ (10 : Int) ≤ ((u / 10 ^ j : Nat) : Int)) : u < 10 ^ (j + 1) := by
  have h1 : u / 10 ^ j < 10 := by omega
  rw [Nat.div_lt_iff_lt_mul (Nat.pow_pos (by decide))] at h1
  rw [Nat.pow_succ, Nat.mul_comm]; exact h1
/-- k digits. -/
def decs : Nat → Nat → List UInt8
  | 0, _ => []
  | k + 1, r => UInt8.ofNat (48 + r / 10 ^ k) :: decs k (r % 10 ^ k)
theorem decs_len : ∀ k r, (decs k r).length = k
  | 0, _ => rfl
  | k + 1, r => by simp [decs, decs_len k]
theorem decs_snoc : ∀ (k r : Nat), decs (k + 1) r = decs k (r / 10) ++ [UInt8.ofNat (48 + (if k = 0 then r else r % 10))]
  | 0, r => by simp [decs]
  | k + 1, r => by
    rw [decs, decs_snoc k, decs]
    have e1 : r / 10 ^ (k + 1) = r / 10 / 10 ^ k := by rw [Nat.pow_succ, Nat.mul_comm, Nat.div_div_eq_div_mul]
    have e2 : r % 10 ^ (k + 1) / 10 = r / 10 % 10 ^ k := by
      rw [Nat.pow_succ, Nat.mul_comm, Nat.mod_mul_right_div_self]
    have e3 : (if k = 0 then r % 10 ^ (k + 1) else r % 10 ^ (k + 1) % 10) = r % 10 := by
      by_cases hk : k = 0
      · subst hk; simp
      · rw [if_neg hk, Nat.mod_mod_of_dvd _ ⟨10 ^ k, by rw [Nat.pow_succ, Nat.mul_comm]⟩]
    rw [e1, e2, e3]
    simp
theorem digs_decs : ∀ (j f u : Nat), 10 ^ j ≤ u → u < 10 ^ (j + 1) → j < f → digs f u = decs (j + 1) u
  | 0, f, u, h1, h2, hf => by
    obtain ⟨f, rfl⟩ : ∃ g, f = g + 1 := ⟨f - 1, by omega⟩
    simp only [digs, Nat.pow_zero] at h1 ⊢
    rw [if_neg (by omega), show u / 10 = 0 by simp at h2; omega, digs_zero, decs]
    simp at h2
    simp [decs, Nat.mod_eq_of_lt h2]
  | j + 1, f, u, h1, h2, hf => by
    obtain ⟨f, rfl⟩ : ∃ g, f = g + 1 := ⟨f - 1, by omega⟩
    have hp : 0 < 10 ^ (j + 1) := Nat.pow_pos (by decide)
    simp only [digs]
    rw [if_neg (by omega), decs_snoc, if_neg (by omega), digs_decs j f (u / 10) (by rw [Nat.pow_succ] at h1; omega) (by rw [Nat.pow_succ 10 (j + 1)] at h2; omega) (by omega)]
theorem utoa_decs {j u : Nat} (h1 : j = 0 ∨ 10 ^ j ≤ u) (h2 : u < 10 ^ (j + 1)) (h3 : u < 18446744073709551616) : utoa u = decs (j + 1) u := by
  unfold utoa
  by_cases h0 : u = 0
  · subst h0
    rcases h1 with rfl | h1
    · rfl
    · exact absurd h1 (by have : 0 < 10 ^ j := Nat.pow_pos (by decide); omega)
  · rw [if_neg h0]
    have hp : 10 ^ j ≤ u := by
      rcases h1 with rfl | h1
      · simp; omega
      · exact h1
    refine digs_decs j 20 u hp h2 ?_
    refine Decidable.byContradiction fun hj => ?_
    have : 10 ^ 20 ≤ 10 ^ j := Nat.pow_le_pow_right (by decide) (by omega)
    have : (18446744073709551616 : Nat) ≤ 10 ^ 20 := by decide
    omega
theorem utoa_lenk {u k : Nat} (hk : 0 < k) (h : u < 10 ^ k) : (utoa u).length ≤ k := by
  unfold utoa
  split
  · simp; omega
  · have : ∀ f j, u < 10 ^ j → (digs f u).length ≤ j := by
      clear h
      intro f
      induction f generalizing u with
      | zero => intro j _; simp [digs]
      | succ f ih =>
        intro j hj
        simp only [digs]
        split
        · simp
        · rename_i h0 h1
          cases j with
          | zero => simp at hj; omega
          | succ j =>
            by_cases hz : u / 10 = 0
            · rw [hz, digs_zero]; simp
            · have := ih (u := u / 10) hz j (by rw [Nat.pow_succ] at hj; omega)
              simp; omega
    exact this 20 k h
/-- Bytes written over a buffer. -/
def wrB (l : List UInt8) (i : Nat) (s : List UInt8) : List UInt8 := l.take i ++ s ++ l.drop (i + s.length)
theorem wrB_len {l s : List UInt8} {i : Nat} (h : i + s.length ≤ l.length) : (wrB l i s).length = l.length := by unfold wrB; simp; omega
theorem wrB_nil (l : List UInt8) (i : Nat) : wrB l i [] = l := by simp [wrB]
theorem wrB_snoc {l s : List UInt8} {i : Nat} {c : UInt8} (h : i + s.length < l.length) : (wrB l i s).set (i + s.length) c = wrB l i (s ++ [c]) := by
  unfold wrB
  rw [List.set_append_right _ _ (by simp; omega)]
  have : i + s.length - (l.take i ++ s).length = 0 := by simp; omega
  rw [this, List.drop_eq_getElem_cons h, List.set_cons_zero]
  simp [Nat.add_assoc]
theorem wrB_wrB {l s s' : List UInt8} {i : Nat} (h : i + s.length ≤ l.length) : wrB (wrB l i s) (i + s.length) s' = wrB l i (s ++ s') := by
  unfold wrB
  have e1 : (l.take i ++ s ++ l.drop (i + s.length)).take (i + s.length) = l.take i ++ s := by
    rw [List.take_append_of_le_length (by simp; omega), List.take_of_length_le (by simp; omega)]
  rw [e1]
  have e2 : (l.take i ++ s ++ l.drop (i + s.length)).drop (i + s.length + s'.length) = l.drop (i + (s ++ s').length) := by
    rw [List.drop_append, List.drop_eq_nil_of_le (by simp; omega), List.nil_append, List.drop_drop]
    congr 1
    simp; omega
  rw [e2]
  simp
theorem wrB_take {l s : List UInt8} {n : Nat} (h : s.length = n) : (wrB l 0 s).take n = s := by
  subst h; unfold wrB; simp
/-- The number of trailing zeros, sought upward. -/
def tz : Nat → Nat → Nat → Nat
  | 0, _, t => t
  | f + 1, m, t => if m / 2 ^ t % 2 = 0 then tz f m (t + 1) else t
abbrev two53 : Nat := 4845873199050653696
abbrev maxFin : Nat := 9218868437227405311
abbrev minFin : Nat := 18442240474082181119
/-- num.Format. -/
def fmtEnd (pre : List UInt8) (m : Nat) (e : Int) : Option (List UInt8) :=
  if m = 0 then none
  else some (pre ++ utoa (m / 2 ^ tz 53 m 0) ++ [112] ++ (if e + tz 53 m 0 < 0 then [45] else []) ++ utoa (e + tz 53 m 0).natAbs)
def fmtTail (pre : List UInt8) (x : Nat) : Option (List UInt8) :=
  if ((x / 4503599627370496 % 2048 : Nat) : Int) - 1075 = -1075 then fmtEnd pre (x % 4503599627370496) (-1074)
  else fmtEnd pre (x % 4503599627370496 + 4503599627370496) (((x / 4503599627370496 % 2048 : Nat) : Int) - 1075)
def fmtRest (pre : List UInt8) (a x : Nat) : Option (List UInt8) :=
  if ford a two53 = some .lt then
    (if isNan (FloatKind.f64.decode a) then none
     else if ford a (floorF a) = some .eq then
      (match (FloatKind.f64.decode a).toInt .zero with
       | some i => if 0 ≤ i ∧ i < 9007199254740992 then some (pre ++ utoa i.toNat) else none
       | none => none)
     else fmtTail pre x)
  else fmtTail pre x
def formatM (x : Nat) : Option (List UInt8) :=
  if ford x x ≠ some .eq then some [110, 97, 110]
  else if ford x maxFin = some .gt then some [105, 110, 102]
  else if ford x minFin = some .lt then some [45, 105, 110, 102]
  else if x / 4503599627370496 / 2048 ≠ 0 then fmtRest [45] (Op.negFloat .f64 x) x
  else fmtRest [] x x
end Go.Wl
