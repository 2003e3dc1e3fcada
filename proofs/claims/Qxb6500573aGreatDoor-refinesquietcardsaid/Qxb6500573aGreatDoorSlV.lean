/- Elements of array values; booleans compared; structs compared. -/
import Derived.Test.Qxb6500573aGreatDoorSlU
namespace Go.Sl
open Go
set_option linter.unusedVariables false
section
variable {P : Program} {n : Nat} {Q : Post} {D : Defs} {ρ : Env} {H : Hp} {ty : TypeId} {K : Kont} {d : Nat} {pos : String} {af : Array Edge} {g : Option (Nat × Bool)}
theorem y_idx_arr {t e : TypeId} {x i : Operand} {k : IntKind} {len : Nat} {l : List Value} {j : Int} {v : Value} (ht : P.underlying t = some (.array len e)) (ha : ∀ w, (isAgg e).run P w = .ok false w) (hz : ∀ w, (sizeOf e).run P w = .ok 1 w) (hx : ev ρ x = some (.agg l.toArray)) (hi : ev ρ i = some (.int k j)) (h0 : 0 ≤ j ∧ j < len)
    (hc : l[j.toNat]? = some v) : Yo P n (.index t x i) ty ρ H v :=
  .mk fun _ _ hf w => by
    have h1 : l.toArray[j.toNat * 1]? = some v := by simpa using hc
    simp only [runs, execOp, hf.ev hx, hf.ev hi, Instr.index, Sem.run_bind]
    simp [asIntOf, run_underlying ht, h0.1, h0.2, part, ha, hz, hc]
theorem y_bne {t u : TypeId} {x y : Operand} {a b : Bool} (ht : P.underlying t = some .bool) (hx : ev ρ x = some (.bool a)) (hy : ev ρ y = some (.bool b)) : Yo P n (.binOp .neq t x y u) ty ρ H (.bool (a != b)) :=
  .mk fun _ _ hf w => by
    have h1 : (Op.equal t (.bool a) (.bool b)).run P w = .ok (a == b) w := by
      have : ∀ m : Nat, (Op.equalIn (m + 1) t (.bool a) (.bool b)).run P w = .ok (a == b) w := fun m => by simp [Op.equalIn, run_underlying ht]
      exact this 9999
    simp only [runs, execOp, hf.ev hx, hf.ev hy, eqGuard, Sem.run_bind, binOp]
    simp [h1]
    cases a <;> cases b <;> rfl
end
end Go.Sl
namespace Go.Sl
open Go
section
variable {P : Program} {n : Nat} {D : Defs} {ρ : Env} {H : Hp} {ty : TypeId}
theorem SP_nodup {c : Code} {Q : Post} (k : ((List.flatten H).map Prod.fst).Nodup → SP P n c Q D ρ H) : SP P n c Q D ρ H :=
  fun A F a w hf ho => k (by have := ho.left.nd; exact this) A F a w hf ho
end
end Go.Sl
