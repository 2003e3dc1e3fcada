/- The law RefinesQuiet, called: the whole heap is kept. -/
import Derived.Test.Qxb6500573aGreatDoorKRowC
import Derived.Test.Qxb6500573aGreatDoorJI
import Derived.Test.Qxb6500573aGreatDoorWLawR
namespace Go.Proofs.Qxb6500573aGreatDoor
open Go Go.Sl Go.Wl Go.Nm Go.ChangeShapes Go.WideShapes Go.RowKit
set_option linter.unusedVariables false
set_option linter.unusedSimpArgs false
theorem refinesQuiet_calls (W : World) (sa : Option Addr) (sc : Nat) (script : List Op1) (hs : LiesK W sa script) (hops : ∀ o, o ∈ script → OpOk o) (hG : GOk (allSeg W)) :
    Calls Tryz.prog 4 #[.slice sa script.length sc] W fun e W' => e = .returned (.bool true) ∧ W'.os = W.os ∧ W'.output = W.output ∧ ∀ i : Nat, i < W.heap.size → W'.heap[i]? = W.heap[i]? := by
  have hso : ScriptAt sa script (allSeg W) := by
    intro i hi
    obtain ⟨b, o, h1, h2⟩ := hs i hi
    refine ⟨b, o, h1, fun H => ?_⟩
    obtain ⟨c, T, fz, h3, _⟩ := cell_block (h2 0 _ rfl)
    refine ⟨c, T, fz, by simp [Has, allSeg_mem, h3], fun q v hq => ?_⟩
    obtain ⟨c', T', fz', h4, h5⟩ := cell_block (h2 q v hq)
    rw [h3] at h4; cases h4
    exact h5
  have h := law_RefinesQuiet tabs_Next Go.Sm.rlaw sa sc script (allSeg W) hso hops hG W [] W (by simpa using allSeg_own W)
  refine h.mono fun e W' hx => ?_
  obtain ⟨H', h1, h2⟩ := hx
  cases e with
  | returned v =>
    obtain ⟨rfl, rfl⟩ := h1
    refine ⟨rfl, h2.os, h2.out, fun i hi => ?_⟩
    have hgi : W.heap[i]? = some W.heap[i] := Array.getElem?_eq_getElem hi
    rw [hgi]
    exact h2.has (i, W.heap[i]) (by simp [allSeg_mem, hgi])
  | _ => exact h1.elim
end Go.Proofs.Qxb6500573aGreatDoor
