/- Floats: rules. -/
import Derived.Test.Qxb6500573aGreatDoorSlV
namespace Go.Sl
open Go
set_option linter.unusedSimpArgs false
set_option linter.unusedSectionVars false
set_option linter.unusedVariables false
abbrev Fl (b : Nat) : Value := .float .f64 b
def ford (a b : Nat) : Option Ordering := FloatKind.f64.format.order a b
theorem ob (o : Option Ordering) (k : Ordering) : (o == some k) = decide (o = some k) := by cases o with
  | none => rfl
  | some o => cases o <;> cases k <;> rfl
section
variable {P : Program} {n : Nat} {Q : Post} {D : Defs} {ρ : Env} {H : Hp} {ty : TypeId} {K : Kont}
variable {t u : TypeId} {x y : Operand} {a b r : Nat}
theorem y_feql (hx : ev ρ x = some (Fl a)) (hy : ev ρ y = some (Fl b)) : Yo P n (.binOp .eql t x y u) ty ρ H (.bool (decide (ford a b = some .eq))) :=
  .mk fun _ _ hf _ => by simp [runs, execOp, hf.ev hx, hf.ev hy, eqGuard, binOp, Op.floatCmp, ob, ford]; by_cases h1 : FloatKind.f64.format.order a b = some .eq <;> by_cases h2 : FloatKind.f64.format.order a b = some .lt <;> by_cases h3 : FloatKind.f64.format.order a b = some .gt <;> simp_all
theorem y_fneq (hx : ev ρ x = some (Fl a)) (hy : ev ρ y = some (Fl b)) : Yo P n (.binOp .neq t x y u) ty ρ H (.bool (decide (ford a b ≠ some .eq))) :=
  .mk fun _ _ hf _ => by
    simp only [runs, execOp, hf.ev hx, hf.ev hy, eqGuard, binOp, Op.floatCmp, ford, bne, ob]; simp; by_cases h1 : FloatKind.f64.format.order a b = some .eq <;> by_cases h2 : FloatKind.f64.format.order a b = some .lt <;> by_cases h3 : FloatKind.f64.format.order a b = some .gt <;> simp_all
theorem y_flss (hx : ev ρ x = some (Fl a)) (hy : ev ρ y = some (Fl b)) : Yo P n (.binOp .lss t x y u) ty ρ H (.bool (decide (ford a b = some .lt))) :=
  .mk fun _ _ hf _ => by simp [runs, execOp, hf.ev hx, hf.ev hy, eqGuard, binOp, Op.floatCmp, ob, ford]; by_cases h1 : FloatKind.f64.format.order a b = some .eq <;> by_cases h2 : FloatKind.f64.format.order a b = some .lt <;> by_cases h3 : FloatKind.f64.format.order a b = some .gt <;> simp_all
theorem y_fgtr (hx : ev ρ x = some (Fl a)) (hy : ev ρ y = some (Fl b)) : Yo P n (.binOp .gtr t x y u) ty ρ H (.bool (decide (ford a b = some .gt))) :=
  .mk fun _ _ hf _ => by simp [runs, execOp, hf.ev hx, hf.ev hy, eqGuard, binOp, Op.floatCmp, ob, ford]; by_cases h1 : FloatKind.f64.format.order a b = some .eq <;> by_cases h2 : FloatKind.f64.format.order a b = some .lt <;> by_cases h3 : FloatKind.f64.format.order a b = some .gt <;> simp_all
theorem y_fleq (hx : ev ρ x = some (Fl a)) (hy : ev ρ y = some (Fl b)) : Yo P n (.binOp .leq t x y u) ty ρ H (.bool (decide (ford a b = some .lt ∨ ford a b = some .eq))) :=
  .mk fun _ _ hf _ => by
    simp only [runs, execOp, hf.ev hx, hf.ev hy, eqGuard, binOp, Op.floatCmp, ford, bne, ob]; simp; by_cases h1 : FloatKind.f64.format.order a b = some .eq <;> by_cases h2 : FloatKind.f64.format.order a b = some .lt <;> by_cases h3 : FloatKind.f64.format.order a b = some .gt <;> simp_all
theorem y_fgeq (hx : ev ρ x = some (Fl a)) (hy : ev ρ y = some (Fl b)) : Yo P n (.binOp .geq t x y u) ty ρ H (.bool (decide (ford a b = some .gt ∨ ford a b = some .eq))) :=
  .mk fun _ _ hf _ => by
    simp only [runs, execOp, hf.ev hx, hf.ev hy, eqGuard, binOp, Op.floatCmp, ford, bne, ob]; simp; by_cases h1 : FloatKind.f64.format.order a b = some .eq <;> by_cases h2 : FloatKind.f64.format.order a b = some .lt <;> by_cases h3 : FloatKind.f64.format.order a b = some .gt <;> simp_all
theorem y_fadd (hx : ev ρ x = some (Fl a)) (hy : ev ρ y = some (Fl b)) (h : FloatKind.f64.format.add a b = some r) : Yo P n (.binOp .add t x y u) ty ρ H (Fl r) :=
  .mk fun _ _ hf _ => by simp [runs, execOp, hf.ev hx, hf.ev hy, eqGuard, binOp, Op.floatArith, h]
theorem y_fsub (hx : ev ρ x = some (Fl a)) (hy : ev ρ y = some (Fl b)) (h : FloatKind.f64.format.sub a b = some r) : Yo P n (.binOp .sub t x y u) ty ρ H (Fl r) :=
  .mk fun _ _ hf _ => by simp [runs, execOp, hf.ev hx, hf.ev hy, eqGuard, binOp, Op.floatArith, h]
theorem y_fmul (hx : ev ρ x = some (Fl a)) (hy : ev ρ y = some (Fl b)) (h : FloatKind.f64.format.mul a b = some r) : Yo P n (.binOp .mul t x y u) ty ρ H (Fl r) :=
  .mk fun _ _ hf _ => by simp [runs, execOp, hf.ev hx, hf.ev hy, eqGuard, binOp, Op.floatArith, h]
theorem y_fquo (hx : ev ρ x = some (Fl a)) (hy : ev ρ y = some (Fl b)) (h : FloatKind.f64.format.div a b = some r) : Yo P n (.binOp .quo t x y u) ty ρ H (Fl r) :=
  .mk fun _ _ hf _ => by simp [runs, execOp, hf.ev hx, hf.ev hy, eqGuard, binOp, Op.floatArith, h]
theorem y_fneg (hx : ev ρ x = some (Fl a)) : Yo P n (.unOp .neg t x) ty ρ H (Fl (Op.negFloat .f64 a)) :=
  .mk fun _ _ hf _ => by simp [runs, execOp, hf.ev hx, Op.unary]
theorem y_i2f {s : TypeId} {dsc : TypeDesc} {k : IntKind} {i : Int} (hs : P.underlying s = some dsc) (ht : P.underlying t = some (.float .f64)) (hx : ev ρ x = some (.int k i)) : Yo P n (.convert s t x) ty ρ H (Fl (FloatKind.f64.nearest i)) :=
  .mk fun _ _ hf _ => by simp [runs, execOp, hf.ev hx, convert, underlying, hs, ht, Conv.intToFloat]
theorem y_f2i {s : TypeId} {dsc : TypeDesc} {k : IntKind} {i : Int} (hs : P.underlying s = some dsc) (ht : P.underlying t = some (.int k)) (hx : ev ρ x = some (Fl a)) (h : (FloatKind.f64.decode a).toInt .zero = some i) (h1 : k.min ≤ i ∧ i ≤ k.max) : Yo P n (.convert s t x) ty ρ H (.int k i) :=
  .mk fun _ _ hf _ => by simp [runs, execOp, hf.ev hx, convert, underlying, hs, ht, Conv.floatToInt, h, h1]
theorem y_f2f {s : TypeId} (hs : P.underlying s = some (.float .f64)) (ht : P.underlying t = some (.float .f64)) (hx : ev ρ x = some (Fl a)) (h : ∀ w, (Conv.floatToFloat .f64 a .f64).run P w = .ok (Fl r) w) : Yo P n (.convert s t x) ty ρ H (Fl r) :=
  .mk fun _ _ hf _ => by simp [runs, execOp, hf.ev hx, convert, underlying, hs, ht, h]
theorem y_str_lo {lo : Operand} {kd : IntKind} {l : List UInt8} {i : Int} (ht : P.underlying t = some .string) (hx : ev ρ x = some (S l)) (hl : ev ρ lo = some (.int kd i)) (h : 0 ≤ i ∧ i ≤ l.length) : Yo P n (.slice t x (some lo) none none) ty ρ H (S (l.drop i.toNat)) :=
  .mk fun _ _ hf w => by
    have hb2 : ∀ code, (Instr.sliceBound (.int kd i) l.length code).run P w = .ok i.toNat w := fun code => run_sliceBound w kd i l.length code (by omega) (by omega)
    have e2 : (ByteArray.mk ⟨l⟩).extract i.toNat l.length = ⟨⟨l.drop i.toNat⟩⟩ := by
      apply ByteArray.ext
      rw [ByteArray.data_extract]
      apply Array.ext'
      simp [List.take_of_length_le]
    simp [runs, execOp, Instr.sliceAt, Instr.slice, Instr.sliceBounds, run_underlying ht, hf.ev hx, hf.ev hl, -ByteArray.size_data]
    rw [show (ByteArray.mk ⟨l⟩).size = l.length from rfl, hb2]
    simp only [Result.andThen_ok, e2]
theorem y_str_hi {hi : Operand} {kd : IntKind} {l : List UInt8} {i : Int} (ht : P.underlying t = some .string) (hx : ev ρ x = some (S l)) (hl : ev ρ hi = some (.int kd i)) (h : 0 ≤ i ∧ i ≤ l.length) : Yo P n (.slice t x none (some hi) none) ty ρ H (S (l.take i.toNat)) :=
  .mk fun _ _ hf w => by
    have hb1 : ∀ code, (Instr.sliceBound (.int kd i) l.length code).run P w = .ok i.toNat w := fun code => run_sliceBound w kd i l.length code (by omega) (by omega)
    have e2 : (ByteArray.mk ⟨l⟩).extract 0 i.toNat = ⟨⟨l.take i.toNat⟩⟩ := by
      apply ByteArray.ext
      rw [ByteArray.data_extract]
      apply Array.ext'
      simp
    simp [runs, execOp, Instr.sliceAt, Instr.slice, Instr.sliceBounds, run_underlying ht, hf.ev hx, hf.ev hl, -ByteArray.size_data]
    rw [show (ByteArray.mk ⟨l⟩).size = l.length from rfl, hb1]
    simp only [Result.andThen_ok, e2]
end
end Go.Sl
