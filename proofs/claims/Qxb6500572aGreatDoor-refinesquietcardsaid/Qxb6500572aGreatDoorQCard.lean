/- The tied card of towerlaw.RefinesQuiet. -/
import Derived.Test.Qxb6500572aGreatDoorQRow
import Derived.Test.Qxb6500572aGreatDoorTie
import Derived.Test.Qxb6500572aGreatDoorCards
import Derived.SevenTiedAt
namespace Go.Proofs.Qxb6500572aGreatDoor
open Go
theorem refinesQuiet_card : Rows.RefinesQuietCardSaid :=
  Claim7.holds_tied_plain_at .later [] [.handle] true (true, "2dac049c2e658232d1f25fac642da785a999c443376b68de7e3f7013b4f646bc") true
    refinesQuiet_holds (fun _ h => by cases h) (by kernel_rfl) (fun _ h => by cases h) refinesQuiet_row_tie rfl ⟨rfl, rfl⟩ (by kernel_rfl) rfl
    (fun f fn hf hfn => by
      obtain rfl : f = 4 := Option.some.inj ((show Tryz.prog.funcNamed Rows.refinesQuietRow.func = some 4 by kernel_rfl).symm.trans hf) |>.symm
      obtain rfl : fn = Tryz.f4 := (Option.some.inj (Tryz.func4.symm.trans hfn)).symm
      exact ⟨by kernel_rfl, fun j t ht => by
        rw [Tryz.params4] at ht
        have h3 : t = 22 := by
          rcases j with _ | j
          · simpa using ht.symm
          · simp at ht
        subst h3
        exact (show Tryz.prog.wantsStandIn 22 = false by kernel_rfl)⟩)
    (by kernel_rfl)
end Go.Proofs.Qxb6500572aGreatDoor
