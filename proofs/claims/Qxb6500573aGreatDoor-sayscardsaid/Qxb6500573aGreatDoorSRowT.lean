/- The closed facts of the row. -/
import Derived.Test.Qxb6500573aGreatDoorSRowA
import Derived.JoinedOf
set_option linter.unusedSimpArgs false
set_option linter.unusedVariables false
set_option linter.unusedSectionVars false
namespace Go.Proofs.Qxb6500573aGreatDoor
open Go Go.Sl Go.Wl Go.ChangeShapes Go.WideShapes Go.RowKit
set_option maxRecDepth 100000
set_option maxHeartbeats 8000000 in
theorem says_facts : joinedFacts Tryz.pinned.checked.prog 6 Tryz.f6 Rows.saysSpec Rows.saysRow = true := by
  unfold joinedFacts
  repeat' (with_reducible refine Bool.and_eq_true_iff.2 ⟨?_, ?_⟩)
  all_goals as_aux_lemma => kernel_rfl
theorem says_named : Tryz.pinned.checked.prog.funcNamed Rows.saysRow.func = some 6 := by kernel_rfl
end Go.Proofs.Qxb6500573aGreatDoor
