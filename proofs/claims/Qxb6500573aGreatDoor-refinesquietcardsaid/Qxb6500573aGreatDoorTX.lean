/- Plain: the real table's list is the model's row: the index is exact. -/
import Derived.Test.Qxb6500573aGreatDoorTA
import Derived.Test.Qxb6500573aGreatDoorTMA
set_option linter.unusedSimpArgs false
set_option linter.unusedVariables false
set_option linter.unusedSectionVars false
set_option exponentiation.threshold 4000
namespace Go.Nm
open Go Go.Sl Go.Wl Go.Proofs
/-! Numbers as keys. -/
theorem toInt_numK : ∀ i : Fin 40, toIntM (FloatKind.f64.nearest ((i.val : Int) + 1)) = some ((i.val : Int) + 1, true) := by decide +kernel
theorem toInt_numN {n : Nat} (h : 1 ≤ n ∧ n ≤ 40) : toIntM (numK n).n.toNat = some ((n : Int), true) := by
  have := toInt_numK ⟨n - 1, by omega⟩
  dsimp only at this
  rw [show (((n - 1 : Nat)) : Int) + 1 = (n : Int) by omega] at this
  show toIntM ((FloatKind.f64.nearest (n : Int) : Nat) : Int).toNat = _
  rw [Int.toNat_natCast]
  exact this
theorem toInt_0 : toIntM 0 = some (0, true) := by kernel_rfl
theorem toInt_n0 : toIntM 9223372036854775808 = some (0, true) := by kernel_rfl
theorem cmp_eqI {a b : Int} (h : compare a b = .eq) : a = b := by
  simp only [compare, compareOfLessAndEq] at h
  split at h
  · cases h
  · split at h
    · assumption
    · cases h
theorem vl_zero {x : Nat} (hv : vl x = 0) : x = 0 := Decidable.byContradiction fun q => by have := vl_pos q; omega
theorem ford_zneg {y : Nat} (hy : y < 9218868437227405312) (h : ford 0 (9223372036854775808 + y) = some .eq) : y = 0 := by
  refine Decidable.byContradiction fun q => ?_
  have hm := mg_ne q
  have h' : (FloatKind.f64.decode 0).order (FloatKind.f64.decode (9223372036854775808 + y)) = some .eq := h
  rw [show FloatKind.f64.decode 0 = .number false (mg 0) (pl 0) from read_fin (by decide), show FloatKind.f64.decode (9223372036854775808 + y) = .number true (mg y) (pl y) from read_neg hy] at h'
  unfold Ieee.Datum.order at h'
  dsimp only at h'
  have hs : ∀ (m k : Nat), Ieee.signed true m k = -((m * 2 ^ k : Nat) : Int) := fun m k => by
    unfold Ieee.signed
    rw [if_pos rfl, shl_eq]
  rw [sgn_f, hs, show mg 0 = 0 from by decide, Nat.zero_mul] at h'
  injection h' with h'
  have h2 := cmp_eqI h'
  have : 0 < mg y * 2 ^ (pl y - min (pl 0) (pl y)).toNat := Nat.mul_pos (Nat.pos_of_ne_zero hm) (Nat.two_pow_pos _)
  omega
theorem toInt_zero {x : Nat} (hx : x < 18446744073709551616) (h : toIntM x = some (0, true)) : x = 0 ∨ x = 9223372036854775808 := by
  have hn0 : FloatKind.f64.nearest 0 = 0 := by kernel_rfl
  unfold toIntM at h
  split at h
  · rename_i hr
    split at h
    · rename_i j hj
      split at h
      · split at h
        · cases h
        · rename_i hne
          have hf : ford (FloatKind.f64.nearest j) x = some .eq := Decidable.not_not.1 hne
          injection h with h
          injection h with h _
          subst h
          rw [hn0] at hf
          have v0 : vl 0 = 0 := by kernel_rfl
          by_cases h1 : x < 9218868437227405312
          · left
            rw [ford_vl (by decide) h1] at hf
            injection hf with hf
            have hv := cmp_eq.1 hf
            rw [v0] at hv
            exact vl_zero hv.symm
          · right
            by_cases h2 : 9223372036854775808 ≤ x ∧ x - 9223372036854775808 < 9218868437227405312
            · obtain ⟨y, rfl⟩ : ∃ y, x = 9223372036854775808 + y := ⟨x - 9223372036854775808, by omega⟩
              have hy : y < 9218868437227405312 := by omega
              have : y = 0 := ford_zneg hy hf
              omega
            · exfalso
              by_cases hn : 9218868437227405312 < x % 9223372036854775808
              · have e := nan_ford (b := two53) (nan_read hn)
                obtain ⟨_, hr2⟩ := hr
                rw [e] at hr2
                rcases hr2 with e | e <;> cases e
              · have : x = 9218868437227405312 ∨ x = 18442240474082181120 := by omega
                rcases this with rfl | rfl
                · cases hj
                · cases hj
      · cases h
    · cases h
  · injection h with h
    injection h with _ h
    cases h
end Go.Nm
