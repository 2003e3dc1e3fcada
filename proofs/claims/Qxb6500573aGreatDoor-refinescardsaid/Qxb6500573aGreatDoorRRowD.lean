/- The row. -/
import Derived.Test.Qxb6500573aGreatDoorRRowC
import Derived.Test.Qxb6500573aGreatDoorRRowT
namespace Go.Proofs.Qxb6500573aGreatDoor
open Go Go.Sl Go.Wl Go.ChangeShapes Go.WideShapes Go.RowKit
theorem refines_holds : Rows.RefinesSaid :=
  OpenClaim.holds_of_wide 3 Tryz.f3 rfl rfl rfl rfl rfl rfl rfl ⟨rfl, rfl, rfl, rfl, rfl⟩ rfl rfl rfl rfl rfl refines_named Tryz.func3 refines_facts
    (of_decide_eq_true (by kernel_rfl)) (by unfold Func.isWrapper; rw [if_neg (of_decide_eq_false (by kernel_rfl))]; exact ⟨rfl, rfl⟩)
    (fun os started H enc _ => refines_lifted os started H enc)
end Go.Proofs.Qxb6500573aGreatDoor
