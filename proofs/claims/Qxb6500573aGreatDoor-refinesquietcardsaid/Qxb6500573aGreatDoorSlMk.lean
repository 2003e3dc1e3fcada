/- make with a capacity. -/
import Derived.Test.Qxb6500573aGreatDoorSlRs
namespace Go.Sl
open Go
set_option linter.unusedSimpArgs false
set_option linter.unusedSectionVars false
section
variable {P : Program} {n : Nat} {Q : Post} {D : Defs} {ρ : Env} {H : Hp} {ty : TypeId} {K : Kont} {d : Nat} {pos : String} {af : Array Edge} {g : Option (Nat × Bool)}
/-- 'make([]T, 0, m)'. -/
theorem SP1_make0 {t e : TypeId} {x y : Operand} {k bytes : Nat} {z : List Value} {m : Nat} (el : El P t e k bytes z) (hx : ev ρ x = some (I 0)) (hy : ev ρ y = some (I m)) (hm : 0 < m) (hb : m * (bytes + 1) ≤ 140737488355328) (hd : Nat.ble (d + 1) n = true)
    (kk : ∀ b, K D ((d, .slice (some ⟨b, 0, none⟩) 0 m) :: ρ) (blk b e (List.replicate m z).flatten :: H)) : SP1 P n { dst := some d, op := .makeSlice t x y, type := ty, pos := pos, after := af, guard := g } Q K D ρ H :=
  SP1_new (x := .cells (List.replicate m z).flatten.toArray e (0, 0)) (v := fun b => .slice (some ⟨b, 0, none⟩) 0 m) hd (fun a w hf => by
    obtain ⟨i, z0, hi, hik, hby, hz, hzc⟩ := el.info
    have hbm : m ≤ 140737488355328 := by
      have : m * 1 ≤ m * (bytes + 1) := Nat.mul_le_mul_left _ (by omega)
      omega
    have hbb : bytes * m ≤ 140737488355328 := by
      have : m * bytes ≤ m * (bytes + 1) := Nat.mul_le_mul_left _ (by omega)
      rw [Nat.mul_comm]; omega
    have hw : IntKind.i64.wrap (m : Int) = m := wrap_i64 (by omega) (by omega)
    have hw0 : IntKind.i64.wrap 0 = 0 := wrap_i64 (by omega) (by omega)
    have hrep := replicate_cells z k m el.zl
    have hbi : ((bytes : Int) * (m : Int) ≤ 281474976710656) := by
      have : ((bytes * m : Nat) : Int) ≤ 281474976710656 := by omega
      simpa using this
    have hk0 := el.kpos
    have hmk : m * k ≠ 0 := Nat.mul_ne_zero (by omega) (by omega)
    have hzv : ∀ w : World, (zeroValue e).run P w = .ok z0 w := fun w => by simp [zeroValue, typeInfo, hi, hz]
    simp [runs, execOp, Instr.makeSlice, underlying, el.sl, hf.ev hx, hf.ev hy, asInt, asIntOf, typeInfo, hi, hby, hw, hw0, newRow, el.size, hmk, hzv, hzc, hbi]
    try rw [if_neg (by omega)]
    have hrep' : Array.map (fun x => z[x % z.length]?.getD default) (Array.range (m * k)) = (List.replicate m z).flatten.toArray := by simpa using hrep
    rw [hrep']) kk
end
end Go.Sl
