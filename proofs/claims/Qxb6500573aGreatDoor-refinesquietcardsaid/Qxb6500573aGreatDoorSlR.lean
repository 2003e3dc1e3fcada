/- 'copy' where nothing is to be copied. -/
import Derived.Test.Qxb6500573aGreatDoorSlQ
namespace Go.Sl
open Go

section
variable {P : Program} {n : Nat} {Q : Post} {D : Defs} {ρ : Env} {H : Hp} {ty : TypeId} {K : Kont} {d : Nat} {pos : String} {af : Array Edge} {g : Option (Nat × Bool)}
theorem SP1_copy0 {x y : Operand} {t u e : TypeId} {k bytes : Nat} {z : List Value} {a a' : Option Addr} {dl dc c' : Nat} (el : El P t e k bytes z) (hx : ev ρ x = some (.slice a dl dc)) (hy : ev ρ y = some (.slice a' 0 c')) (hn : Nat.ble (d + 1) n = true)
    (kk : K D ((d, I 0) :: ρ) H) :
    SP1 P n { dst := some d, op := .call { callee := .builtin .copy, args := #[x, y], argTypes := #[t, u] }, type := ty, pos := pos, after := af, guard := g } Q K D ρ H :=
  fun A F act w hf ho => by
    have h1 : ∀ w : World, (Builtin.lenOf (.slice a' 0 c')).run P w = .ok 0 w := fun w => by simp [Builtin.lenOf]
    have h2 : ∀ w : World, (Builtin.firstCells k 0 (.slice a' 0 c')).run P w = .ok #[] w := fun w => by cases a' <;> simp [Builtin.firstCells, loadCells, loadCellsFrom]
    have hrun : (execOp act.eval { dst := some d, op := .call { callee := .builtin .copy, args := #[x, y], argTypes := #[t, u] }, type := ty, pos := pos, after := af, guard := g }).run P w = .ok (.value (I 0)) w := by
      simp only [execOp, resolve, invoke, builtin, Builtin.copy_, Sem.run_bind, Sem.run_pure, Result.andThen_ok]
      cases a <;> simp [hf.ev hx, hf.ev hy, run_underlying el.sl, h1, el.size, h2, storeCells, goInt]
    have hdf : ∀ v', (act.put (some d) v').defers = D := fun v' => hf.defers
    unfold Oper.wp
    rw [hrun]
    exact ⟨_, _, by rw [hdf]; exact hf.put hn _, ho, by rw [hdf]; exact kk⟩
end
end Go.Sl
