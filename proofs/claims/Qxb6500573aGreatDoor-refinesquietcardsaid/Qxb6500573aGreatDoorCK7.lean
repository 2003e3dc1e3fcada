/- Plain: package comp: what a check of the whole wants. -/
import Derived.Test.Qxb6500573aGreatDoorWChkI
import Derived.Test.Qxb6500573aGreatDoorWChkG
import Derived.Test.Qxb6500573aGreatDoorAJ
namespace Go.Wl
open Go Go.Sl Go.Proofs
set_option linter.unusedVariables false
/-- The compiler at rest. -/
structure CrC (c : CSt) : Prop where
  np : 0 ≤ c.s.np ∧ c.s.np ≤ 13
  h13 : c.s.fs.length = 13
  bl : c.buf.length ≤ 32768
  fn : ∀ (x : Nat) f, (x : Int) < c.s.np → c.s.fs[x]? = some f → FnC c.s x f
  sz : ∃ (Z : Nat → Int) (K : Nat → Nat → Int), Z 0 = (if 1 < c.s.np then 1 else c.s.np) ∧ Z c.s.np.toNat = c.buf.length ∧ ∀ (x : Nat) f, (x : Int) < c.s.np → c.s.fs[x]? = some f → K x 0 = Z x + (7 + 2 * (f.ups.length : Int) + 3 * f.code.length) ∧ (∀ (i : Nat) v, f.consts[i]? = some v → K x (i + 1) = K x i + (2 + v.s.length) + (if v.t = 2 then 7 else 0) ∧ 0 ≤ K x i ∧ K x i ≤ 100000) ∧ Z (x + 1) = K x f.consts.length ∧ 0 ≤ Z x ∧ Z x ≤ 100000
end Go.Wl
