/- The row. -/
import Derived.Test.Qxb6500573aGreatDoorSRowC
import Derived.Test.Qxb6500573aGreatDoorSRowT
set_option linter.unusedSimpArgs false
set_option linter.unusedVariables false
set_option linter.unusedSectionVars false
namespace Go.Proofs.Qxb6500573aGreatDoor
open Go Go.Sl Go.Wl Go.ChangeShapes Go.WideShapes Go.RowKit
theorem says_holds : Rows.SaysSaid :=
  OpenClaim.holds_of_wide 6 Tryz.f6 rfl rfl rfl rfl rfl rfl rfl ⟨rfl, rfl, rfl, rfl, rfl⟩ rfl rfl rfl rfl rfl says_named Tryz.func6 says_facts
    (of_decide_eq_true (by kernel_rfl)) (by unfold Func.isWrapper; rw [if_neg (of_decide_eq_false (by kernel_rfl))]; exact ⟨rfl, rfl⟩)
    (fun os started H enc _ => says_lifted os started H enc)
end Go.Proofs.Qxb6500573aGreatDoor
