/- Rules: one cell of a row of rows. -/
import Derived.Test.Qxb6500573aGreatDoorSlW
namespace Go.Sl
open Go
set_option linter.unusedVariables false
theorem SP1_storeF {P : Program} {n : Nat} {Q : Post} {D : Defs} {ρ : Env} {H : Hp} {ty : TypeId} {K : Kont} {pos : String} {af : Array Edge} {g : Option (Nat × Bool)} {α : Type} {f : α → List Value} {k : Nat} (hf : ∀ x, (f x).length = k) {l : List α} {sp : List Value} {i b q : Nat} {j : Int} {v : Value} {x : α} {T t : TypeId} {ox oy : Operand} {H' : Hp}
    (hz : ∀ w, (sizeOf t).run P w = .ok 1 w) (hx : ev ρ ox = some (.pointer (some ⟨b, 0 + j.toNat * k + q, none⟩))) (hy : ev ρ oy = some v) (h1 : v.oneCell' = true) (hj : j = i) (hi : i < l.length) (hq : q < k) (hxx : f x = (f l[i]).set q v)
    (hu : Upd H b T (l.flatMap f ++ sp) ((l.set i x).flatMap f ++ sp) H') (kk : K D ρ H') : SP1 P n { dst := none, op := .store t ox oy, type := ty, pos := pos, after := af, guard := g } Q K D ρ H :=
  SP1_store hz hx hy h1 (by rw [flat_upd hf hj hi hq hxx]; exact hu) (flat_ble hf hj hi hq) kk
end Go.Sl
