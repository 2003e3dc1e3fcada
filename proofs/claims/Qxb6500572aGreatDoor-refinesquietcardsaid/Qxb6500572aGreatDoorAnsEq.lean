/- Answers compared. -/
import Derived.Test.Qxb6500572aGreatDoorWLawA
namespace Go.Sl
set_option linter.unusedSimpArgs false
open Go Go.Wl Go.Proofs
set_option linter.unusedVariables false
theorem eqI (d : Nat) (t : TypeId) (h : Tryz.prog.underlying t = some (.int .i64)) (a b : Int) (w : World) : (Op.equalIn (d + 1) t (I a) (I b)).run Tryz.prog w = .ok (a == b) w := by
  simp [Op.equalIn, run_underlying h]
theorem eqS (d : Nat) (a b : List UInt8) (w : World) : (Op.equalIn (d + 1) 9 (S a) (S b)).run Tryz.prog w = .ok (decide (a = b)) w := by
  have : ((⟨⟨a⟩⟩ : ByteArray) == ⟨⟨b⟩⟩) = decide (a = b) := by
    have e : ((⟨⟨a⟩⟩ : ByteArray) == ⟨⟨b⟩⟩) = ((⟨a⟩ : Array UInt8) == ⟨b⟩) := rfl
    rw [e]
    by_cases h : a = b
    · subst h; simp
    · rw [decide_eq_false h]
      cases hx : ((⟨a⟩ : Array UInt8) == ⟨b⟩) with
      | false => rfl
      | true => exact absurd (by have := eq_of_beq hx; simpa using this) h
  simp [Op.equalIn, run_underlying Tryz.underlying9, this]
theorem ans_eq (a b : Ans) (w : World) : (Op.equal 53 (.agg (ansV a).toArray) (.agg (ansV b).toArray)).run Tryz.prog w = .ok (decide (a.e = b.e ∧ a.n = b.n ∧ a.m = b.m ∧ a.s = b.s)) w := by
  have hs : Tryz.prog.stoodInHeld 53 = false := by kernel_rfl
  have key : ∀ d : Nat, (Op.equalIn (d + 1 + 1) 53 (.agg (ansV a).toArray) (.agg (ansV b).toArray)).run Tryz.prog w = .ok (decide (a.e = b.e ∧ a.n = b.n ∧ a.m = b.m ∧ a.s = b.s)) w := fun d => by
    rw [Op.equalIn]
    simp only [Sem.run_bind, run_underlying Tryz.underlying53, Result.andThen_ok, run_program, hs]
    simp [part, Tryz.isAgg51, Tryz.isAgg3, Tryz.isAgg9, ansV, eqI d 51 Tryz.underlying51, eqI d 3 Tryz.underlying3, eqS]
    by_cases h1 : a.e = b.e <;> by_cases h2 : a.n = b.n <;> by_cases h3 : a.m = b.m <;> by_cases h4 : a.s = b.s <;> simp [h1, h2, h3, h4]
  exact key 9998
def Ans.same (a b : Ans) : Prop := a.e = b.e ∧ a.n = b.n ∧ a.m = b.m ∧ a.s = b.s
theorem y_aeq {n : Nat} {ρ : Env} {H : Hp} {ty u : TypeId} {x y : Operand} {a b : Ans} {p : Prop} [Decidable p] (hx : ev ρ x = some (.agg (ansV a).toArray)) (hy : ev ρ y = some (.agg (ansV b).toArray)) (hp : p ↔ a.e = b.e ∧ a.n = b.n ∧ a.m = b.m ∧ a.s = b.s) : Yo Tryz.prog n (.binOp .eql 53 x y u) ty ρ H (.bool (decide p)) :=
  .mk fun _ _ hf w => by
    have hg : Tryz.prog.eqGuardType Tryz.prog.depth 53 = false := by kernel_rfl
    have h1 := ans_eq a b w
    have h2 : decide p = decide (a.e = b.e ∧ a.n = b.n ∧ a.m = b.m ∧ a.s = b.s) := by simp only [hp]
    simp only [runs, execOp, hf.ev hx, hf.ev hy, eqGuard, Sem.run_bind, run_program, Result.andThen_ok, hg, binOp, h1, h2]
    simp [h1]
end Go.Sl
