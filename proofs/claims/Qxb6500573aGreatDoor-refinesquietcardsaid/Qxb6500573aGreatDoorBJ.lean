/- Plain: the fourth law: what its walk asks of the plain side. -/
import Derived.Test.Qxb6500573aGreatDoorBI
import Derived.Test.Qxb6500573aGreatDoorWNew
import Derived.Test.Qxb6500573aGreatDoorVEq
set_option linter.unusedSimpArgs false
set_option linter.unusedVariables false
set_option linter.unusedSectionVars false
set_option exponentiation.threshold 4000
namespace Go.Wl
open Go Go.Sl Go.Proofs
set_option linter.unusedSimpArgs false
set_option linter.unusedSectionVars false
set_option linter.unusedVariables false
structure Op1 where
  kind : Int
  a : Int
  b : Int
  c : Int
  s : List UInt8
  t : List UInt8
def opV (o : Op1) : List Value := [I o.kind, I o.a, I o.b, I o.c, S o.s, S o.t]
def ScriptAt (sa : Option Addr) (script : List Op1) (gs : Seg) : Prop := ∀ (i : Nat) (hi : i < script.length), ∃ b o, sa = some ⟨b, o, none⟩ ∧ ∀ H, Cells (gs :: H) b (o + ((i : Nat) : Int).toNat * 6) (opV script[i])
def noneT : List UInt8 := showVal V.nil
structure SLaw (L : Lim) (J : CSt → VM → Prop) : Prop where
  init : J cst0 m00
  fmt : ∀ x : Nat, x < 9218868437227405312 → ∃ t, formatM x = some t ∧ t.length ≤ 24
  one : ∀ (c : CSt) (m : VM) (k : Int) (x : Nat) (t : List UInt8), J c m → x < 9218868437227405312 → formatM x = some t → (sayM k t).src ≠ [] →
    ∃ c1 m1 c2 m2, runM L (sayM k t).src (sayM k t).fuel c m = some (⟨0, 0, 0, (sayM k t).out, noneT⟩, c1, m1) ∧ runM L (sayM k t).src ((sayM k t).fuel - 1) c1 m1 = some (⟨9, 0, 0, (sayM k t).short, [45]⟩, c2, m2) ∧ J c2 m2 ∧ (-1000000 ≤ (sayM k t).fuel ∧ (sayM k t).fuel ≤ 1000000)
  two : ∀ (c : CSt) (m : VM) (k : Int) (x : Nat) (t : List UInt8), J c m → x < 9218868437227405312 → formatM x = some t → (morM k t).src ≠ [] →
    ∃ c1 m1 c2 m2, runM L (morM k t).src (morM k t).fuel c m = some (⟨0, 0, (morM k t).m, (morM k t).out, noneT⟩, c1, m1) ∧ runM L (morM k t).src ((morM k t).fuel - 1) c1 m1 = some (⟨9, 0, (morM k t).ms, (morM k t).short, [45]⟩, c2, m2) ∧ J c2 m2 ∧ (-1000000 ≤ (morM k t).fuel ∧ (morM k t).fuel ≤ 1000000)
end Go.Wl
namespace Go.Sl
open Go Go.Wl Go.Proofs
theorem ans_eq (a : Ans) (w : World) : (Op.equal 32 (.agg (ansV a).toArray) (.agg (ansV a).toArray)).run Tryz.prog w = .ok true w := by
  have hs : Tryz.prog.stoodInHeld 32 = false := by kernel_rfl
  have key : ∀ d : Nat, (Op.equalIn (d + 1 + 1) 32 (.agg (ansV a).toArray) (.agg (ansV a).toArray)).run Tryz.prog w = .ok true w := fun d => by
    obtain ⟨e, n, m, s, t⟩ := a
    rw [Op.equalIn]
    simp only [Sem.run_bind, run_underlying Tryz.underlying32, Result.andThen_ok, run_program, hs]
    simp [part, Tryz.isAgg30, Tryz.isAgg3, Tryz.isAgg9, ansV, eqI d 30 Tryz.underlying30, eqI d 3 Tryz.underlying3, eqS]
  exact key 9998
theorem y_aneq {n : Nat} {ρ : Env} {H : Hp} {ty u : TypeId} {x y : Operand} {a : Ans} (hx : ev ρ x = some (.agg (ansV a).toArray)) (hy : ev ρ y = some (.agg (ansV a).toArray)) : Yo Tryz.prog n (.binOp .neq 32 x y u) ty ρ H (.bool false) :=
  .mk fun _ _ hf w => by
    have hg : Tryz.prog.eqGuardType Tryz.prog.depth 32 = false := by kernel_rfl
    have h1 := ans_eq a w
    simp only [runs, execOp, hf.ev hx, hf.ev hy, eqGuard, Sem.run_bind, run_program, Result.andThen_ok, hg, binOp, h1]
    simp [h1]
end Go.Sl
