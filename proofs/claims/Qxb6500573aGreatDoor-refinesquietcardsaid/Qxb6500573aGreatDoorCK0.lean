/- Plain: package vm, what a check reads. -/
import Derived.Test.Qxb6500573aGreatDoorWVmM
namespace Go.Wl
open Go Go.Sl Go.Proofs
set_option linter.unusedVariables false
section
variable {b : VB} {ph : PH} {hh : List TH} {m : VM} {seg : Seg}
theorem getI_jn {α : Type} {l : List α} {j : Nat} (h : j < l.length) (hl : l.length ≤ 1000000) : getI l ((j : Nat) : Int) = some l[j] := by
  unfold getI
  rw [if_pos (by omega), Int.toNat_natCast, List.getElem?_eq_getElem h]
theorem isVM.cloA (hM : isVM b ph hh m seg) : ∃ la lc, (∀ H : Hp, Cell (seg :: H) b.vb (0 + 6) (.slice la m.vs.clos.length lc)) ∧ ∀ (i : Int) (p : Cl), getI m.vs.clos i = some p → ∃ q, la = some ⟨q, 0, none⟩ ∧ ∀ H : Hp, Cells (seg :: H) q (0 + i.toNat * 3) (clV p) := by
  obtain ⟨h', rfl, hO'⟩ := hM
  refine ⟨h'.la, h'.lc, fun H => seg_cell (s := vhead b ph m h') (List.mem_cons_self) (Cell.head rfl), fun i p hp => ?_⟩
  obtain ⟨q, hq, hc2⟩ := arr_at clV_len hO'.cls hp
  exact ⟨q, hq, fun H => seg_cells (s := h'.sl) (by simp) hc2⟩
theorem isVM.upxA (hM : isVM b ph hh m seg) : ∃ la lc, (∀ H : Hp, Cell (seg :: H) b.vb (0 + 7) (.slice la m.vs.upix.length lc)) ∧ ∀ (i : Int) (p : Int), getI m.vs.upix i = some p → ∃ q, la = some ⟨q, 0, none⟩ ∧ ∀ H : Hp, Cell (seg :: H) q (0 + i.toNat * 1) (I p) := by
  obtain ⟨h', rfl, hO'⟩ := hM
  refine ⟨h'.ua, h'.uc, fun H => seg_cell (s := vhead b ph m h') (List.mem_cons_self) (Cell.head rfl), fun i p hp => ?_⟩
  obtain ⟨q, hq, hc2⟩ := arr1_at hO'.ups hp
  exact ⟨q, hq, fun H => seg_cell (s := h'.su) (by simp) hc2⟩
theorem isVM.celA (hM : isVM b ph hh m seg) : ∃ la lc, (∀ H : Hp, Cell (seg :: H) b.vb (0 + 8) (.slice la m.vs.cells.length lc)) ∧ ∀ (i : Int) (p : Ce), getI m.vs.cells i = some p → ∃ q, la = some ⟨q, 0, none⟩ ∧ ∀ H : Hp, Cells (seg :: H) q (0 + i.toNat * 5) (ceV p) := by
  obtain ⟨h', rfl, hO'⟩ := hM
  refine ⟨h'.ea, h'.ec, fun H => seg_cell (s := vhead b ph m h') (List.mem_cons_self) (Cell.head rfl), fun i p hp => ?_⟩
  obtain ⟨q, hq, hc2⟩ := arr_at ceV_len hO'.ces hp
  exact ⟨q, hq, fun H => seg_cells (s := h'.se) (by simp) hc2⟩
end
end Go.Wl
