/- The closed facts of the row. -/
import Derived.Test.Qxb6500573aGreatDoorSRowA
import Derived.JoinedOf
namespace Go.Proofs.Qxb6500573aGreatDoor
open Go Go.Sl Go.Wl Go.ChangeShapes Go.WideShapes Go.RowKit
set_option maxRecDepth 100000
set_option maxHeartbeats 8000000 in
theorem refinesQuiet_facts : joinedFacts Tryz.pinned.checked.prog 4 Tryz.f4 Rows.refinesQuietSpec Rows.refinesQuietRow = true := by
  unfold joinedFacts
  repeat' (with_reducible refine Bool.and_eq_true_iff.2 ⟨?_, ?_⟩)
  all_goals as_aux_lemma => kernel_rfl
theorem refinesQuiet_named : Tryz.pinned.checked.prog.funcNamed Rows.refinesQuietRow.func = some 4 := by kernel_rfl
end Go.Proofs.Qxb6500573aGreatDoor
