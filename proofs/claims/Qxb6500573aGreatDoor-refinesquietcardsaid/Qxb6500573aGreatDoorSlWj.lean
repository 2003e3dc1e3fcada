/- Windows of arrays. -/
import Derived.Test.Qxb6500573aGreatDoorSlWi
namespace Go.Sl
open Go Go.Proofs
section
variable {P : Program} {n : Nat} {ty : TypeId} {ρ : Env} {H : Hp}
theorem y_arr_lhm {t e : TypeId} {x lo hi mx : Operand} {kd ke kf : IntKind} {b o m z : Nat} {i j k : Int} (ht : P.underlying t = some (.array m e)) (hz : ∀ w, (sizeOf e).run P w = .ok z w) (hx : ev ρ x = some (.pointer (some ⟨b, o, none⟩))) (hl : ev ρ lo = some (.int kd i)) (hh : ev ρ hi = some (.int ke j)) (hm : ev ρ mx = some (.int kf k))
    (h : 0 ≤ i ∧ i ≤ j ∧ j ≤ k ∧ k ≤ m ∧ i < k) : Yo P n (.slice t x (some lo) (some hi) (some mx)) ty ρ H (.slice (some ⟨b, o + i.toNat * z, none⟩) (j.toNat - i.toNat) (k.toNat - i.toNat)) :=
  .mk fun _ _ hf w => by
    have hb0 : ∀ code, (Instr.sliceBound (.int kf k) m code).run P w = .ok k.toNat w := fun code => run_sliceBound w kf k m code (by omega) (by omega)
    have hb1 : ∀ code, (Instr.sliceBound (.int ke j) k.toNat code).run P w = .ok j.toNat w := fun code => run_sliceBound w ke j k.toNat code (by omega) (by omega)
    have hb2 : ∀ code, (Instr.sliceBound (.int kd i) j.toNat code).run P w = .ok i.toNat w := fun code => run_sliceBound w kd i j.toNat code (by omega) (by omega)
    have hne : k.toNat ≠ i.toNat := by omega
    simp [runs, execOp, Instr.sliceAt, Instr.sliceBounds, run_underlying ht, hf.ev hx, hf.ev hl, hf.ev hh, hf.ev hm, hb0, hb1, hb2, hz, Instr.sureAddr, hne, Addr_add]
end
end Go.Sl
