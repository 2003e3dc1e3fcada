/- Windows of slices; appends onto windows. -/
import Derived.Test.Qxb6500573aGreatDoorSlBs
namespace Go.Sl
open Go
set_option linter.unusedVariables false
section
variable {P : Program} {n : Nat} {Q : Post} {D : Defs} {ρ : Env} {H : Hp} {ty : TypeId} {K : Kont} {d : Nat} {pos : String} {af : Array Edge} {g : Option (Nat × Bool)}
/-- Where a window lies. -/
def winA (a : Option Addr) (z m l : Nat) : Option Addr := if m = l then a else a.map fun q => ⟨q.block, q.off + l * z, none⟩
def plainA (a : Option Addr) : Prop := a = none ∨ ∃ b o, a = some ⟨b, o, none⟩
theorem Arr.plainA {T : TypeId} {k : Nat} {a : Option Addr} {m c : Nat} {xs : List Value} {s : Seg} (h : Arr T k a m c xs s) : plainA a := by
  rcases h.2 with ⟨rfl, _⟩ | ⟨b, sp, rfl, _⟩
  · exact .inl rfl
  · exact .inr ⟨b, 0, rfl⟩
theorem winA_some {b o z m l : Nat} (h : m ≠ l) : winA (some ⟨b, o, none⟩) z m l = some ⟨b, o + l * z, none⟩ := by simp [winA, h]
theorem y_win {t e : TypeId} {z : Nat} {x lo hi : Operand} {kd ke : IntKind} {a : Option Addr} {m c : Nat} {i j : Int} (ha : plainA a) (ht : P.underlying t = some (.slice e)) (hz : ∀ w, (sizeOf e).run P w = .ok z w) (hx : ev ρ x = some (.slice a m c)) (hl : ev ρ lo = some (.int kd i)) (hh : ev ρ hi = some (.int ke j))
    (h : 0 ≤ i ∧ i ≤ j ∧ j ≤ c) : Yo P n (.slice t x (some lo) (some hi) none) ty ρ H (.slice (winA a z c i.toNat) (j.toNat - i.toNat) (c - i.toNat)) :=
  .mk fun _ _ hf w => by
    have hb : ∀ code, (Instr.sliceBound (.int ke j) c code).run P w = .ok j.toNat w := fun code => run_sliceBound w ke j c code (by omega) (by omega)
    have hb2 : ∀ code, (Instr.sliceBound (.int kd i) j.toNat code).run P w = .ok i.toNat w := fun code => run_sliceBound w kd i j.toNat code (by omega) (by omega)
    rcases ha with rfl | ⟨b, o, rfl⟩ <;> simp [runs, execOp, Instr.sliceAt, Instr.slice, Instr.sliceBounds, run_underlying ht, hf.ev hx, hf.ev hl, hf.ev hh, hb, hb2, hz, Addr_add, winA]
theorem y_win3 {t e : TypeId} {z : Nat} {x lo hi mx : Operand} {kd ke kf : IntKind} {a : Option Addr} {m c : Nat} {i j k : Int} (ha : plainA a) (ht : P.underlying t = some (.slice e)) (hz : ∀ w, (sizeOf e).run P w = .ok z w) (hx : ev ρ x = some (.slice a m c)) (hl : ev ρ lo = some (.int kd i)) (hh : ev ρ hi = some (.int ke j)) (hm : ev ρ mx = some (.int kf k))
    (h : 0 ≤ i ∧ i ≤ j ∧ j ≤ k ∧ k ≤ c) : Yo P n (.slice t x (some lo) (some hi) (some mx)) ty ρ H (.slice (winA a z k.toNat i.toNat) (j.toNat - i.toNat) (k.toNat - i.toNat)) :=
  .mk fun _ _ hf w => by
    have hb0 : ∀ code, (Instr.sliceBound (.int kf k) c code).run P w = .ok k.toNat w := fun code => run_sliceBound w kf k c code (by omega) (by omega)
    have hb : ∀ code, (Instr.sliceBound (.int ke j) k.toNat code).run P w = .ok j.toNat w := fun code => run_sliceBound w ke j k.toNat code (by omega) (by omega)
    have hb2 : ∀ code, (Instr.sliceBound (.int kd i) j.toNat code).run P w = .ok i.toNat w := fun code => run_sliceBound w kd i j.toNat code (by omega) (by omega)
    rcases ha with rfl | ⟨b, o, rfl⟩ <;> simp [runs, execOp, Instr.sliceAt, Instr.slice, Instr.sliceBounds, run_underlying ht, hf.ev hx, hf.ev hl, hf.ev hh, hf.ev hm, hb0, hb, hb2, hz, Addr_add, winA]
variable {ops : Array Oper} {Hs : Hp}
theorem SPO_openAt {ord : List (Nat × Nat)} (pre : Hp) {H' : Hp} (hp : Pick pre.flatten H H') (h : SPO P n ops Q Hs ord D ρ (pre ++ H')) : SPO P n ops Q Hs ord D ρ H :=
  fun A F a w hf ho => h A F a w hf (by
    have := ho.perm (List.Perm.append_right F hp)
    simpa using this)
theorem SPL_openAt {l : List Oper} (pre : Hp) {H' : Hp} (hp : Pick pre.flatten H H') (h : SPL P n ops l Q D ρ (pre ++ H')) : SPL P n ops l Q D ρ H := SPL_open hp h
end
end Go.Sl
