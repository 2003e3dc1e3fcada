/- Slices cut from the front, whatever their address. -/
import Derived.Test.Qxb6500573aGreatDoorSlP
namespace Go.Sl
open Go

section
variable {P : Program} {n : Nat} {Q : Post} {D : Defs} {ρ : Env} {H : Hp} {ty : TypeId}
/-- 's[i:]' where something is left, or nothing: the address then may be any. -/
theorem y_fromA {t e T : TypeId} {k z : Nat} {x lo : Operand} {kd : IntKind} {a : Option Addr} {m c : Nat} {j : Int} {xs : List Value} {s : Seg} (ha : Arr T k a m c xs s) (ht : P.underlying t = some (.slice e)) (hz : ∀ w, (sizeOf e).run P w = .ok z w) (hx : ev ρ x = some (.slice a m c)) (hh : ev ρ lo = some (.int kd j))
    (h : 0 ≤ j ∧ j ≤ m) {v : Value} (hv : v = .slice (if c = j.toNat then a else a.map fun q => ⟨q.block, q.off + j.toNat * z, none⟩) (m - j.toNat) (c - j.toNat)) : Yo P n (.slice t x (some lo) none none) ty ρ H v := by
  subst hv
  rcases ha.2 with ⟨rfl, rfl, rfl, _⟩ | ⟨b, sp, rfl, _⟩
  · exact .mk fun _ _ hf w => by
      have hj : j.toNat = 0 := by omega
      have hb : ∀ code, (Instr.sliceBound (.int kd j) 0 code).run P w = .ok j.toNat w := fun code => run_sliceBound w kd j 0 code (by omega) (by omega)
      simp [runs, execOp, Instr.sliceAt, Instr.slice, Instr.sliceBounds, run_underlying ht, hf.ev hx, hf.ev hh, hb, hz, hj]
  · have := y_from (P := P) (n := n) (H := H) (ty := ty) ht hz hx hh h
    have e : (some (if c = j.toNat then (⟨b, 0, none⟩ : Addr) else ⟨b, 0 + j.toNat * z, none⟩)) = (if c = j.toNat then some (⟨b, 0, none⟩ : Addr) else (some (⟨b, 0, none⟩ : Addr)).map fun q => ⟨q.block, q.off + j.toNat * z, none⟩) := by
      split <;> rfl
    rw [e] at this
    exact this
end
end Go.Sl
