/- The tied card of towerlaw.Refines. -/
import Derived.Test.Qxb6500572aGreatDoorRRow
import Derived.Test.Qxb6500572aGreatDoorTie
import Derived.Test.Qxb6500572aGreatDoorCards
import Derived.SevenTiedAt
namespace Go.Proofs.Qxb6500572aGreatDoor
open Go
theorem refines_card : Rows.RefinesCardSaid :=
  Claim7.holds_tied_plain_at .later [] [.handle] true (true, "2dac049c2e658232d1f25fac642da785a999c443376b68de7e3f7013b4f646bc") true
    refines_holds (fun _ h => by cases h) (by kernel_rfl) (fun _ h => by cases h) refines_row_tie rfl ⟨rfl, rfl⟩ (by kernel_rfl) rfl
    (fun f fn hf hfn => by
      obtain rfl : f = 3 := Option.some.inj ((show Tryz.prog.funcNamed Rows.refinesRow.func = some 3 by kernel_rfl).symm.trans hf) |>.symm
      obtain rfl : fn = Tryz.f3 := (Option.some.inj (Tryz.func3.symm.trans hfn)).symm
      exact ⟨by kernel_rfl, fun j t ht => by
        rw [Tryz.params3] at ht
        have h3 : t = 22 := by
          rcases j with _ | j
          · simpa using ht.symm
          · simp at ht
        subst h3
        exact (show Tryz.prog.wantsStandIn 22 = false by kernel_rfl)⟩)
    (by kernel_rfl)
end Go.Proofs.Qxb6500572aGreatDoor
