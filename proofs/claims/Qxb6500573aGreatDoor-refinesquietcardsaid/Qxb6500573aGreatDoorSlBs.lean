/- Rows built of several parts; arrays of two bytes. -/
import Derived.Test.Qxb6500573aGreatDoorSlDf
import Derived.Test.Qxb6500573aGreatDoorVEq
namespace Go.Sl
open Go Go.Proofs
set_option linter.unusedSimpArgs false
set_option linter.unusedSectionVars false
set_option linter.unusedVariables false
section
variable {P : Program} {n : Nat} {Q : Post} {D : Defs} {ρ : Env} {H : Hp} {ty : TypeId} {K : Kont} {d : Nat} {pos : String} {af : Array Edge} {g : Option (Nat × Bool)}
theorem SP1_sliceN {t e : TypeId} {len : Nat} {parts : List (Nat × Operand)} {k bytes : Nat} {z l : List Value} {vs : List (Nat × Value)} (el : El P t e k bytes z) (hp : evp ρ parts = some vs)
    (hf : Instr.fill (fun i => some (i * k, k)) ((Array.range (len * k)).map (z.toArray[· % z.toArray.size]!)) vs = some l.toArray) (hk : (Nat.ble (len * k) 16777216 && Nat.ble 1 (len * k)) = true) (hd : Nat.ble (d + 1) n = true)
    (kk : ∀ b, K D ((d, .slice (some ⟨b, 0, none⟩) len len) :: ρ) (blk b e l :: H)) : SP1 P n { dst := some d, op := .buildSlice t len parts.toArray, type := ty, pos := pos, after := af, guard := g } Q K D ρ H :=
  SP1_new (x := .cells l.toArray e (0, 0)) (v := fun b => .slice (some ⟨b, 0, none⟩) len len) hd (fun a w hfit => by
    obtain ⟨i, z0, hi, hik, _, hz, hzc⟩ := el.info
    have e1 := hfit.evp hp
    have hk1 : ¬ (16777216 < len * k) := by
      have := (Bool.and_eq_true _ _ ▸ hk).1
      have := Nat.le_of_ble_eq_true this
      omega
    have hk2 : ¬ (len * k = 0) := by
      have := (Bool.and_eq_true _ _ ▸ hk).2
      have := Nat.le_of_ble_eq_true this
      omega
    have e' : (Array.map (fun x : Nat × Operand => (x.1, a.eval x.2)) parts.toArray).toList = vs := by simpa using e1
    have hzv : (zeroValue e).run P w = .ok z0 w := by simp [zeroValue, typeInfo, hi, hz]
    simp only [runs, execOp, Instr.buildSlice, Sem.run_bind, run_underlying el.sl, Result.andThen_ok, el.size]
    rw [if_neg (by simpa using hk1), if_neg hk2]
    simp only [Sem.run_bind, Sem.run_pure, hzv, Result.andThen_ok, hzc]
    rw [show (Array.map (fun x => match x with | (i, x) => (i, a.eval x)) parts.toArray).toList = vs from e', hf]
    simp [newRow]) kk
end
theorem y_build159 {n : Nat} {ρ : Env} {H : Hp} {ty : TypeId} {p q : Int} : Yo Tryz.prog n (.build 159 #[(0, .const (.int .u8 p)), (1, .const (.int .u8 q))]) ty ρ H (.agg #[.int .u8 p, .int .u8 q]) :=
  .mk fun _ f hf w => by
    simp [runs, execOp, Instr.build, Tryz.zeroValue159, run_underlying Tryz.underlying159, Tryz.sizeOf5, Act.eval, Instr.fill, Value.cells, Array.zipIdx]
theorem pair_eq (a b c d : Int) (w : World) : (Op.equal 159 (.agg #[.int .u8 a, .int .u8 b]) (.agg #[.int .u8 c, .int .u8 d])).run Tryz.prog w = .ok (decide ((a, b) = (c, d))) w := by
  have hs : Tryz.prog.stoodInHeld 159 = false := by kernel_rfl
  have key : ∀ k : Nat, (Op.equalIn (k + 1 + 1) 159 (.agg #[.int .u8 a, .int .u8 b]) (.agg #[.int .u8 c, .int .u8 d])).run Tryz.prog w = .ok (decide ((a, b) = (c, d))) w := fun k => by
    rw [Op.equalIn]
    simp only [Sem.run_bind, run_underlying Tryz.underlying159, Result.andThen_ok, run_program, hs]
    simp [part, Tryz.isAgg5, Tryz.sizeOf5, eqI k 5 Tryz.underlying5, List.range'_succ, List.range'_zero, List.forIn_cons, List.forIn_nil]
    by_cases h1 : a = c <;> by_cases h2 : b = d <;> simp [h1, h2]
  exact key 9998
theorem y_pairEq {n : Nat} {ρ : Env} {H : Hp} {ty u : TypeId} {x y : Operand} {a b c d : Int} (hx : ev ρ x = some (.agg #[.int .u8 a, .int .u8 b])) (hy : ev ρ y = some (.agg #[.int .u8 c, .int .u8 d])) : Yo Tryz.prog n (.binOp .eql 159 x y u) ty ρ H (.bool (decide ((a, b) = (c, d)))) :=
  .mk fun _ _ hf w => by
    have hg : Tryz.prog.eqGuardType Tryz.prog.depth 159 = false := by kernel_rfl
    have h1 := pair_eq a b c d w
    simp only [runs, execOp, hf.ev hx, hf.ev hy, eqGuard, Sem.run_bind, run_program, Result.andThen_ok, hg, binOp, h1]
    simp [h1]
end Go.Sl
