/- Values and answers compared. -/
import Derived.Test.Qxb6500573aGreatDoorAT
namespace Go.Sl
set_option linter.unusedSimpArgs false
open Go Go.Wl Go.Proofs
set_option linter.unusedVariables false
theorem eqI (d : Nat) (t : TypeId) {k : IntKind} (h : Tryz.prog.underlying t = some (.int k)) (a b : Int) (w : World) : (Op.equalIn (d + 1) t (.int k a) (.int k b)).run Tryz.prog w = .ok (a == b) w := by
  simp [Op.equalIn, run_underlying h]
theorem eqS (d : Nat) (a b : List UInt8) (w : World) : (Op.equalIn (d + 1) 9 (S a) (S b)).run Tryz.prog w = .ok (decide (a = b)) w := by
  have : ((⟨⟨a⟩⟩ : ByteArray) == ⟨⟨b⟩⟩) = decide (a = b) := by
    have e : ((⟨⟨a⟩⟩ : ByteArray) == ⟨⟨b⟩⟩) = ((⟨a⟩ : Array UInt8) == ⟨b⟩) := rfl
    rw [e]
    by_cases h : a = b
    · subst h; simp
    · rw [decide_eq_false h]
      cases hx : ((⟨a⟩ : Array UInt8) == ⟨b⟩) with
      | false => rfl
      | true => exact absurd (by have := eq_of_beq hx; simpa using this) h
  simp [Op.equalIn, run_underlying Tryz.underlying9, this]
theorem val_eq (a b : V) (w : World) : (Op.equal 42 (.agg (valV a).toArray) (.agg (valV b).toArray)).run Tryz.prog w = .ok (decide (a = b)) w := by
  have hs : Tryz.prog.stoodInHeld 42 = false := by kernel_rfl
  have key : ∀ d : Nat, (Op.equalIn (d + 1 + 1) 42 (.agg (valV a).toArray) (.agg (valV b).toArray)).run Tryz.prog w = .ok (decide (a = b)) w := fun d => by
    obtain ⟨t, n, s⟩ := a
    obtain ⟨t', n', s'⟩ := b
    rw [Op.equalIn]
    simp only [Sem.run_bind, run_underlying Tryz.underlying42, Result.andThen_ok, run_program, hs]
    simp [part, Tryz.isAgg40, Tryz.isAgg3, Tryz.isAgg9, valV, eqI d 40 Tryz.underlying40, eqI d 3 Tryz.underlying3, eqS]
    by_cases h1 : t = t' <;> by_cases h2 : n = n' <;> by_cases h3 : s = s' <;> simp [h1, h2, h3]
  exact key 9998
theorem y_veq {n : Nat} {ρ : Env} {H : Hp} {ty u : TypeId} {x y : Operand} {a b : V} (hx : ev ρ x = some (.agg (valV a).toArray)) (hy : ev ρ y = some (.agg (valV b).toArray)) : Yo Tryz.prog n (.binOp .eql 42 x y u) ty ρ H (.bool (decide (a = b))) :=
  .mk fun _ _ hf w => by
    have hg : Tryz.prog.eqGuardType Tryz.prog.depth 42 = false := by kernel_rfl
    have h1 := val_eq a b w
    simp only [runs, execOp, hf.ev hx, hf.ev hy, eqGuard, Sem.run_bind, run_program, Result.andThen_ok, hg, binOp, h1]
    simp [h1]
end Go.Sl
