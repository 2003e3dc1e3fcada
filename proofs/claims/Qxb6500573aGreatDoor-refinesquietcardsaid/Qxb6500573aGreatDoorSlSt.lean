/- The order of strings; values unlike. -/
import Derived.Test.Qxb6500573aGreatDoorVEq
namespace Go.Sl
open Go Go.Wl Go.Proofs
set_option linter.unusedSimpArgs false
set_option linter.unusedSectionVars false
set_option linter.unusedVariables false
section
variable {P : Program} {n : Nat} {ρ : Env} {H : Hp} {ty : TypeId}
theorem y_slss {t u : TypeId} {x y : Operand} {l m : List UInt8} (hx : ev ρ x = some (S l)) (hy : ev ρ y = some (S m)) : Yo P n (.binOp .lss t x y u) ty ρ H (.bool (Op.bytesLess l m)) :=
  .mk fun _ _ hf _ => by simp [runs, execOp, hf.ev hx, hf.ev hy, eqGuard, binOp, Op.stringOp, ByteArray.toList_eq]
theorem y_sleq {t u : TypeId} {x y : Operand} {l m : List UInt8} (hx : ev ρ x = some (S l)) (hy : ev ρ y = some (S m)) : Yo P n (.binOp .leq t x y u) ty ρ H (.bool (Op.bytesLess l m || (l == m))) :=
  .mk fun _ _ hf _ => by simp [runs, execOp, hf.ev hx, hf.ev hy, eqGuard, binOp, Op.stringOp, ByteArray.toList_eq]
theorem y_sgtr {t u : TypeId} {x y : Operand} {l m : List UInt8} (hx : ev ρ x = some (S l)) (hy : ev ρ y = some (S m)) : Yo P n (.binOp .gtr t x y u) ty ρ H (.bool (!(Op.bytesLess l m || (l == m)))) :=
  .mk fun _ _ hf _ => by simp [runs, execOp, hf.ev hx, hf.ev hy, eqGuard, binOp, Op.stringOp, ByteArray.toList_eq]
theorem y_sgeq {t u : TypeId} {x y : Operand} {l m : List UInt8} (hx : ev ρ x = some (S l)) (hy : ev ρ y = some (S m)) : Yo P n (.binOp .geq t x y u) ty ρ H (.bool (!Op.bytesLess l m)) :=
  .mk fun _ _ hf _ => by simp [runs, execOp, hf.ev hx, hf.ev hy, eqGuard, binOp, Op.stringOp, ByteArray.toList_eq]
end
theorem y_vne {n : Nat} {ρ : Env} {H : Hp} {ty u : TypeId} {x y : Operand} {a b : V} (hx : ev ρ x = some (.agg (valV a).toArray)) (hy : ev ρ y = some (.agg (valV b).toArray)) : Yo Tryz.prog n (.binOp .neq 42 x y u) ty ρ H (.bool (decide (a ≠ b))) :=
  .mk fun _ _ hf w => by
    have hg : Tryz.prog.eqGuardType Tryz.prog.depth 42 = false := by kernel_rfl
    have h1 := val_eq a b w
    simp only [runs, execOp, hf.ev hx, hf.ev hy, eqGuard, Sem.run_bind, run_program, Result.andThen_ok, hg, binOp, h1]
    simp [h1]
end Go.Sl
