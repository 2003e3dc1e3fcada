/- Functions of the model's own (externs): rules. -/
import Derived.Test.Qxb6500573aGreatDoorSlT
import Derived.Laws.Externs
namespace Go.Sl
open Go
set_option linter.unusedVariables false
section
variable {P : Program} {n : Nat} {Q : Post} {D : Defs} {ρ : Env} {H : Hp} {ty : TypeId} {K : Kont} {d : Nat} {pos : String} {af : Array Edge} {g : Option (Nat × Bool)}
theorem callF_run {f : FuncId} {xs : List Operand} {args : List Value} {at_ : Array TypeId} {D : Defs} {a : Act} (hf : Fits n D ρ a) (ha : evs ρ xs = some args) (w : World) :
    runs P (.call { callee := .value (.func f), args := xs.toArray, argTypes := at_ }) ty a.eval w = (callFunc f args.toArray).run P w := by
  have h1 := hf.evs ha
  simp only [runs, execOp, resolve, invoke, Deferred.ofValue, Sem.run_bind, Sem.run_pure, Result.andThen_ok, Act.eval]
  simp [h1]
theorem y_ext1 {f : FuncId} {xs : List Operand} {args : List Value} {at_ : Array TypeId} {v : Value} (ha : evs ρ xs = some args) (h : ∀ w, (callFunc f args.toArray).run P w = .ok (.value v) w) : Yo P n (.call { callee := .value (.func f), args := xs.toArray, argTypes := at_ }) ty ρ H v :=
  .mk fun _ _ hf w => by rw [callF_run hf ha, h]
/-- The same where a cell is read. -/
theorem y_ext1c {f : FuncId} {xs : List Operand} {args : List Value} {at_ : Array TypeId} {v : Value} {b off : Nat} {u : Value} (ha : evs ρ xs = some args) (hc : Cell H b off u) (h : ∀ w : World, w.cell? ⟨b, off, none⟩ = some u → (callFunc f args.toArray).run P w = .ok (.value v) w) : Yo P n (.call { callee := .value (.func f), args := xs.toArray, argTypes := at_ }) ty ρ H v := by
  intro D a A hh w hf ho hs
  rw [callF_run hf ha, h w (hc.at ho hs)]
theorem SP1_extN {f : FuncId} {xs : List Operand} {args : List Value} {at_ : Array TypeId} {T : TypeId} {l : List Value} {v : Nat → Value} (ha : evs ρ xs = some args) (h : ∀ w, (callFunc f args.toArray).run P w = .ok (.value (v w.heap.size)) (w.alloc (.cells l.toArray T (0, 0)))) (hd : Nat.ble (d + 1) n = true)
    (k : ∀ b, K D ((d, v b) :: ρ) (blk b T l :: H)) : SP1 P n { dst := some d, op := .call { callee := .value (.func f), args := xs.toArray, argTypes := at_ }, type := ty, pos := pos, after := af, guard := g } Q K D ρ H :=
  SP1_new hd (fun a w hf => by rw [callF_run hf ha, h]) k
theorem SP1_extS {f : FuncId} {xs : List Operand} {args : List Value} {at_ : Array TypeId} {T : TypeId} {b : Nat} {old v u : Value} {b2 : Nat} {H' : Hp} (ha : evs ρ xs = some args) (hc : Cell H b2 0 u) (hu : Upd H b T [old] [v] H')
    (h : ∀ w : World, w.cell? ⟨b2, 0, none⟩ = some u → w.cell? ⟨b, 0, none⟩ = some old → w.frozen? ⟨b, 0, none⟩ = false → (callFunc f args.toArray).run P w = .ok (.value (.tuple #[])) (w.setCell ⟨b, 0, none⟩ v)) (hd : Nat.ble (d + 1) n = true)
    (k : K D ((d, .tuple #[]) :: ρ) H') : SP1 P n { dst := some d, op := .call { callee := .value (.func f), args := xs.toArray, argTypes := at_ }, type := ty, pos := pos, after := af, guard := g } Q K D ρ H :=
  fun A F a w hf ho => by
    obtain ⟨R, o1, o2⟩ := Own.upd hu ho
    have hrun : (execOp a.eval { dst := some d, op := .call { callee := .value (.func f), args := xs.toArray, argTypes := at_ }, type := ty, pos := pos, after := af, guard := g }).run P w = .ok (.value (.tuple #[])) (w.setCell ⟨b, 0, none⟩ v) := by
      have := callF_run (P := P) (f := f) (ty := ty) (at_ := at_) hf ha w
      unfold runs at this
      rw [show (execOp a.eval { dst := some d, op := .call { callee := .value (.func f), args := xs.toArray, argTypes := at_ }, type := ty, pos := pos, after := af, guard := g }).run P w = (callFunc f args.toArray).run P w from this]
      exact h w (hc.at ho (fun p hp => List.mem_append_left _ hp)) (o1.cell List.mem_cons_self rfl) (o1.frozen (off := 0) List.mem_cons_self)
    unfold Oper.wp
    rw [hrun]
    refine ⟨_, H', by rw [show (a.put (some d) (Value.tuple #[])).defers = D from hf.defers]; exact hf.put hd _, o2 _ ?_, by rw [show (a.put (some d) (Value.tuple #[])).defers = D from hf.defers]; exact k⟩
    exact o1.setCell v
theorem callI_run {x : Operand} {name : String} {xs : List Operand} {args : List Value} {at_ : Array TypeId} {D : Defs} {a : Act} {r : Value} (hf : Fits n D ρ a) (hx : ev ρ x = some r) (ha : evs ρ xs = some args) (w : World) :
    runs P (.call { callee := .invoke x name, args := xs.toArray, argTypes := at_ }) ty a.eval w = (callMethod r name args.toArray).run P w := by
  have h1 := hf.evs ha
  have e : (#[r] ++ args.toArray).extract 1 (#[r] ++ args.toArray).size = args.toArray := by
    apply Array.ext'; simp
  simp only [runs, execOp, resolve, invoke, Sem.run_bind, Sem.run_pure, Result.andThen_ok]
  simp [hf.ev hx, h1]
theorem y_extI {x : Operand} {name : String} {xs : List Operand} {args : List Value} {at_ : Array TypeId} {r v : Value} (hx : ev ρ x = some r) (ha : evs ρ xs = some args) (h : ∀ w, (callMethod r name args.toArray).run P w = .ok (.value v) w) : Yo P n (.call { callee := .invoke x name, args := xs.toArray, argTypes := at_ }) ty ρ H v :=
  .mk fun _ _ hf w => by rw [callI_run hf hx ha, h]
end
end Go.Sl
