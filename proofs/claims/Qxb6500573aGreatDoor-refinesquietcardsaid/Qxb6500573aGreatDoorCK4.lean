/- Plain: package syntax: what a check reads and wants. -/
import Derived.Test.Qxb6500573aGreatDoorWParse
import Derived.Test.Qxb6500573aGreatDoorVEq
import Derived.Test.Qxb6500573aGreatDoorCK0
set_option linter.unusedSimpArgs false
set_option linter.unusedVariables false
namespace Go.Wl
open Go Go.Sl Go.Proofs
set_option linter.unusedSimpArgs false
set_option linter.unusedVariables false
theorem isSyn.rows {sx : Nat} {nv : Value} {toks : List Tok} {nodes : List Nd} {seg : Seg} (h : isSyn sx nv toks nodes seg) : ∃ ta tc na nc, (∀ H : Hp, Cell (seg :: H) sx (0 + 1) (.slice ta toks.length tc)) ∧ (∀ H : Hp, Cell (seg :: H) sx (0 + 2) (.slice na nodes.length nc)) ∧
    (∀ (i : Int) t, getI toks i = some t → ∃ q, ta = some ⟨q, 0, none⟩ ∧ ∀ H : Hp, Cells (seg :: H) q (0 + i.toNat * 5) (tokV t)) ∧ ∀ (i : Int) d, getI nodes i = some d → ∃ q, na = some ⟨q, 0, none⟩ ∧ ∀ H : Hp, Cells (seg :: H) q (0 + i.toNat * 8) (ndV d) := by
  obtain ⟨ta, tc, st, na, nc, sN, h1, h2, rfl⟩ := h
  refine ⟨ta, tc, na, nc, fun H => seg_cell (s := blk sx 106 [nv, .slice ta toks.length tc, .slice na nodes.length nc]) (by simp) (Cell.head rfl), fun H => seg_cell (s := blk sx 106 [nv, .slice ta toks.length tc, .slice na nodes.length nc]) (by simp) (Cell.head rfl), fun i t hi => ?_, fun i d hi => ?_⟩
  · obtain ⟨q, hq, hc⟩ := arr_at tokV_len h1 hi
    exact ⟨q, hq, fun H => seg_cells (s := st) (by simp) hc⟩
  · obtain ⟨q, hq, hc⟩ := arr_at ndV_len h2 hi
    exact ⟨q, hq, fun H => seg_cells (s := sN) (by simp) hc⟩
/-- The two buffers at rest. -/
structure SyC (toks : List Tok) (nodes : List Nd) : Prop where
  tl : toks.length ≤ 2049
  nl : nodes.length ≤ 2049
  tk : ∀ (i : Nat) t, toks[i]? = some t → (((t.kind = 0 ∨ t.kind = 1) ∧ i + 1 = toks.length) ∨ (t.kind ≠ 0 ∧ t.kind ≠ 1 ∧ i + 1 ≠ toks.length)) ∧ (0 ≤ t.kind ∧ t.kind ≤ 46) ∧ ((i : Int) ≤ t.at_ ∧ t.at_ ≤ 2048) ∧ ((t.err ≠ 0 ∧ t.kind = 1) ∨ (t.err = 0 ∧ t.kind ≠ 1)) ∧ ∀ u, 0 < i → toks[i - 1]? = some u → u.at_ < t.at_
  nd : ∀ (i : Nat) d, nodes[i]? = some d → (i = 0 → d = nd0) ∧ (0 ≤ d.a ∧ 0 ≤ d.b ∧ 0 ≤ d.c) ∧ (d.a = 0 ∨ d.a + 1 ≤ i) ∧ (d.b = 0 ∨ d.b + 1 ≤ i) ∧ (d.c = 0 ∨ d.c + 1 ≤ i) ∧ (d.next = 0 ∨ ((i : Int) < d.next ∧ d.next < nodes.length))
end Go.Wl
namespace Go.Sl
open Go Go.Wl Go.Proofs
section
variable {P : Program} {n : Nat} {ty : TypeId} {ρ : Env} {H : Hp}
theorem y_max4 {x y z v : Operand} {k : IntKind} {a b c d e : Int} {at_ : Array TypeId} (hx : ev ρ x = some (.int k a)) (hy : ev ρ y = some (.int k b)) (hz : ev ρ z = some (.int k c)) (hv : ev ρ v = some (.int k d)) (h : (if (if (if a < b then b else a) < c then c else (if a < b then b else a)) < d then d else (if (if a < b then b else a) < c then c else (if a < b then b else a))) = e) : Yo P n (.call { callee := .builtin .max, args := #[x, y, z, v], argTypes := at_ }) ty ρ H (.int k e) := by
  subst h
  exact .mk fun _ _ hf _ => by simp [runs, execOp, resolve, invoke, builtin, Builtin.max_, Builtin.max2, hf.ev hx, hf.ev hy, hf.ev hz, hf.ev hv]
end
theorem nd_eq0 (w : World) : (Op.equal 158 (.agg (ndV nd0).toArray) (.agg (ndV nd0).toArray)).run Tryz.prog w = .ok true w := by
  have hs : Tryz.prog.stoodInHeld 158 = false := by kernel_rfl
  have key : ∀ d : Nat, (Op.equalIn (d + 1 + 1) 158 (.agg (ndV nd0).toArray) (.agg (ndV nd0).toArray)).run Tryz.prog w = .ok true w := fun d => by
    rw [Op.equalIn]
    simp only [Sem.run_bind, run_underlying Tryz.underlying158, Result.andThen_ok, run_program, hs]
    simp [part, ndV, nd0, Tryz.isAgg40, Tryz.isAgg3, Tryz.isAgg9, eqI d 40 Tryz.underlying40, eqI d 3 Tryz.underlying3, eqS]
  exact key 9998
theorem y_ndne0 {n : Nat} {ρ : Env} {H : Hp} {ty u : TypeId} {x y : Operand} (hx : ev ρ x = some (.agg (ndV nd0).toArray)) (hy : ev ρ y = some (.agg (ndV nd0).toArray)) : Yo Tryz.prog n (.binOp .neq 158 x y u) ty ρ H (.bool false) :=
  .mk fun _ _ hf w => by
    have hg : Tryz.prog.eqGuardType Tryz.prog.depth 158 = false := by kernel_rfl
    have h1 := nd_eq0 w
    simp only [runs, execOp, hf.ev hx, hf.ev hy, eqGuard, Sem.run_bind, run_program, Result.andThen_ok, hg, binOp, h1]
    simp [h1]
end Go.Sl
