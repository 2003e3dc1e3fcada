/- Plain: package vm: what a check wants. -/
import Derived.Test.Qxb6500573aGreatDoorWChkA
namespace Go.Wl
open Go Go.Sl Go.Proofs
set_option linter.unusedVariables false
theorem y_cap {P : Program} {n : Nat} {ty : TypeId} {ρ : Env} {H : Hp} {t e : TypeId} {x : Operand} {a : Option Addr} {m c : Nat} (ht : P.underlying t = some (.slice e)) (hx : ev ρ x = some (.slice a m c)) :
    Yo P n (.call { callee := .builtin .cap, args := #[x], argTypes := #[t] }) ty ρ H (I c) :=
  .mk fun _ _ hf _ => by
    simp [runs, execOp, resolve, invoke, builtin, Builtin.cap_, underlying, ht, hf.ev hx, goInt]
/-- A frame that sleeps: where it lies, its open cells. -/
def FrC (m : VM) (t : Th) (oN : Nat → Nat) (aT : Nat → Int) (j : Nat) (f : Fr) : Prop := ∃ cl p, getI m.vs.clos f.clo = some cl ∧ getI m.pg.protos cl.p = some p ∧ (0 ≤ p.nslots ∧ p.nslots ≤ 1000) ∧ (0 ≤ f.pc ∧ f.pc ≤ p.ncode) ∧ (0 ≤ f.ret ∧ f.ret ≤ f.base ∧ f.base ≤ 100000) ∧
  (∀ g, t.frames[j + 1]? = some g → f.base + p.nslots ≤ g.ret ∧ g.ret - (f.base + p.nslots) + 2 ≤ 128 ∧ (1 ≤ g.base - g.ret ∧ g.base - g.ret ≤ 4) ∧ g.base - (f.base + p.nslots) ≤ 128 ∧ g.base ≤ t.stack.length) ∧
  (t.frames.length = j + 1 → f.base + p.nslots ≤ t.stack.length ∧ (t.stack.length : Int) - (f.base + p.nslots) + 2 ≤ 128) ∧ (j = 0 → f.base = 0 ∧ f.ret = 0 ∧ f.prot = false) ∧ (oN j ≤ oN (j + 1) ∧ oN (j + 1) ≤ t.opn.length) ∧ ∀ k, oN j ≤ k → k < t.opn.length → f.base ≤ aT k ∧ (aT k < f.base + p.nslots ↔ k < oN (j + 1))
/-- A thread that does not run. -/
structure ThC (m : VM) (i : Nat) (t : Th) : Prop where
  ln : m.vs.clos.length ≤ 24 ∧ m.vs.cells.length ≤ 100000 ∧ t.stack.length ≤ 100000 ∧ t.opn.length ≤ 100000 ∧ m.pg.protos.length ≤ 13
  fn : 0 ≤ t.fn ∧ t.fn < m.vs.clos.length
  nr : t.st ≠ 4
  z : i = 0 → t.st = 1 → m.vs.threads.length ≤ 1
  fr : t.st = 1 ∨ t.st = 5 → t.stack.length = 0 ∧ t.frames.length = 0 ∧ t.opn.length = 0
  sl : t.st ≠ 1 → t.st ≠ 5 → (t.st = 2 ∨ t.st = 3) ∧ ¬ (i = 0 ∧ t.st = 2) ∧ (1 ≤ t.frames.length ∧ t.frames.length ≤ 8) ∧ ∃ (oN : Nat → Nat) (aT : Nat → Int), oN 0 = 0 ∧ oN t.frames.length = t.opn.length ∧ (∀ (k : Nat) x, t.opn[k]? = some x → ∃ ce, getI m.vs.cells x = some ce ∧ ce.th = (i : Int) ∧ ce.at_ = aT k) ∧ (∀ k, k + 1 < t.opn.length → aT k < aT (k + 1)) ∧ ∀ (j : Nat) f, t.frames[j]? = some f → FrC m t oN aT j f
end Go.Wl
