/- Type assertions to concrete types, panics, method calls on interface values. -/
import Derived.Test.Qxb6500573aGreatDoorSlO
namespace Go.Sl
open Go

section
variable {P : Program} {n : Nat} {Q : Post} {D : Defs} {ρ : Env} {H : Hp} {ty : TypeId} {K : Kont} {d : Nat} {pos : String} {af : Array Edge} {g : Option (Nat × Bool)}

/-- 'x.(T)' for a concrete T that x holds. -/
theorem y_assert {x : Operand} {t a : TypeId} {v : Value} {dsc : TypeDesc} (ht : P.underlying a = some dsc) (hd : (match dsc with | .interface _ => true | _ => false) = false) (hx : ev ρ x = some (.iface a v)) : Yo P n (.typeAssert x t a false) ty ρ H v :=
  .mk fun _ _ hf w => by
    simp only [runs, execOp, hf.ev hx, Instr.typeAssert, Sem.run_bind, run_underlying ht, Result.andThen_ok]
    cases dsc <;> simp_all
theorem y_assertOk {x : Operand} {t a : TypeId} {v : Value} {dsc : TypeDesc} (ht : P.underlying a = some dsc) (hd : (match dsc with | .interface _ => true | _ => false) = false) (hx : ev ρ x = some (.iface a v)) : Yo P n (.typeAssert x t a true) ty ρ H (.tuple #[v, .bool true]) :=
  .mk fun _ _ hf w => by
    simp only [runs, execOp, hf.ev hx, Instr.typeAssert, Sem.run_bind, run_underlying ht, Result.andThen_ok]
    cases dsc <;> simp_all
theorem y_assertNo {x : Operand} {t a u : TypeId} {v z : Value} {dsc : TypeDesc} (ht : P.underlying a = some dsc) (hd : (match dsc with | .interface _ => true | _ => false) = false) (hz : ∀ w, (zeroValue a).run P w = .ok z w) (hx : ev ρ x = some (.iface u v)) (hne : Nat.beq u a = false) :
    Yo P n (.typeAssert x t a true) ty ρ H (.tuple #[z, .bool false]) :=
  .mk fun _ _ hf w => by
    have hua : ¬ u = a := fun e => by subst e; rw [Nat.beq_refl] at hne; cases hne
    simp only [runs, execOp, hf.ev hx, Instr.typeAssert, Sem.run_bind, run_underlying ht, Result.andThen_ok]
    cases dsc <;> simp_all
/-- 'panic(x)' of a value that is no nil. -/
theorem SP1_panic {x : Operand} {t : TypeId} {v : Value} {dst : Option Nat} (hx : ev ρ x = some (.iface t v)) (h : Q (.panic [{ v := .iface t v, recovered := false }]) D ρ H) :
    SP1 P n { dst := dst, op := .panic x, type := ty, pos := pos, after := af, guard := g } Q K D ρ H := fun A F a w hf ho => by
  have hrun : (execOp a.eval { dst := dst, op := .panic x, type := ty, pos := pos, after := af, guard := g }).run P w = .halt (.panic (.iface t v)) w := by
    simp only [execOp, hf.ev hx, Sem.run_bind]; rfl
  unfold Oper.wp
  rw [hrun]
  exact ⟨ρ, H, by rw [hf.defers]; exact hf, ho, by rw [hf.defers]; exact h⟩
/-- A method call on an interface value; 'hc': which function that is. -/
theorem SP1_invoke {f : FuncId} {x : Operand} {name : String} {xs : List Operand} {args : List Value} {t : TypeId} {v rv : Value} {at_ : Array TypeId} {pre rest : Hp} {R : Value → Hp → Prop} (hx : ev ρ x = some (.iface t v))
    (hc : ∀ av w, (callMethod (.iface t v) name av).run P w = .ok (.enter f (#[rv] ++ av)) w)
    (spec : Spec P f (rv :: args) pre (Ret R)) (ha : evs ρ xs = some args) (hn : Nat.ble (d + 1) n = true) (hp : Part H pre rest)
    (hr : ∀ v post H', R v post → H' = post ++ rest → K D ((d, v) :: ρ) H') :
    SP1 P n { dst := some d, op := .call { callee := .invoke x name, args := xs.toArray, argTypes := at_ }, type := ty, pos := pos, after := af, guard := g } Q K D ρ H :=
  SP1_enter spec rfl hn hp (fun a w hf => by
    have h1 := hf.evs ha
    have h2 := hc args.toArray w
    have e : (#[Value.iface t v] ++ args.toArray).extract 1 (#[Value.iface t v] ++ args.toArray).size = args.toArray := by
      apply Array.ext'; simp
    simp only [execOp, resolve, invoke, Sem.run_bind, Sem.run_pure, Result.andThen_ok]
    simp [hf.ev hx, h1, h2]) (fun v post h => hr v post _ h rfl) (fun c post h => h.elim) (fun post h => h)
end
end Go.Sl
