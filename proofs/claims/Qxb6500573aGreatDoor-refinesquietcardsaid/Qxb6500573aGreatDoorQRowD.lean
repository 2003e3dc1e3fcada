/- The row. -/
import Derived.Test.Qxb6500573aGreatDoorQRowC
import Derived.Test.Qxb6500573aGreatDoorQRowT
namespace Go.Proofs.Qxb6500573aGreatDoor
open Go Go.Sl Go.Wl Go.ChangeShapes Go.WideShapes Go.RowKit
theorem refinesQuiet_holds : Rows.RefinesQuietSaid :=
  OpenClaim.holds_of_wide 4 Tryz.f4 rfl rfl rfl rfl rfl rfl rfl ⟨rfl, rfl, rfl, rfl, rfl⟩ rfl rfl rfl rfl rfl refinesQuiet_named Tryz.func4 refinesQuiet_facts
    (of_decide_eq_true (by kernel_rfl)) (by unfold Func.isWrapper; rw [if_neg (of_decide_eq_false (by kernel_rfl))]; exact ⟨rfl, rfl⟩)
    (fun os started H enc _ => refinesQuiet_lifted os started H enc)
end Go.Proofs.Qxb6500573aGreatDoor
