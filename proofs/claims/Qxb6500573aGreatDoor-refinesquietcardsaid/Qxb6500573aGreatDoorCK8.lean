/- Plain: what the top theorem wants of the tower. -/
import Derived.Test.Qxb6500573aGreatDoorWChkL
import Derived.Test.Qxb6500573aGreatDoorWKeeps
import Derived.Test.Qxb6500573aGreatDoorWLawM
namespace Go.Nm
open Go Go.Sl Go.Wl Go.Zm Go.Proofs
set_option linter.unusedVariables false
/-- A whole run, with the count of threads that have begun. -/
def runX (L : Lim) (src : List UInt8) (fuel : Int) (c : CSt) (m : VM) (cn : Int) : Option (Ans × CSt × VM × Int) :=
  bind1 (imgM L.d src c) fun r => match r.1 with
    | .err e a => some (⟨e, a, 0, [], []⟩, r.2, m, cn)
    | .ok im => bind1 (coRunK L im fuel m) fun q => some (q.1, r.2, q.2.2, q.2.1)
structure RLaw (J : CSt → VM → Int → Prop) (fn : List UInt8 → Int → Ans) : Prop where
  init : J cst0 m00 0
  step : ∀ (c : CSt) (m : VM) (cn : Int) (src : List UInt8) (A : Int), J c m cn → i64r A → ∃ L c1 m1 cn1, runX L src A c m cn = some (fn src A, c1, m1, cn1) ∧ J c1 m1 cn1
  chk : ∀ (c : CSt) (m : VM) (cn : Int), J c m cn → SyC c.toks c.nodes ∧ CrC c ∧ VCk m ∧ TsC m.vs.tabs ∧ 0 ≤ cn ∧ cn < 5
  eq : ∀ (src : List UInt8) (A : Int), i64r A → ∃ N, runZ N src A = some (fn src A)
/-- What a step answers, on either side. -/
def doT (fn : List UInt8 → Int → Ans) (o : Op1) : Ans := if o.kind = 1 then fn o.s o.a else if o.kind = 2 then ⟨0, 0, 0, [], []⟩ else if o.kind = 3 then ⟨0, 1, 0, [], []⟩ else ⟨0, 0, 0, [], []⟩
theorem doM_T {J : CSt → VM → Int → Prop} {fn : List UInt8 → Int → Ans} (h : RLaw J fn) {o : Op1} (ho : i64r o.a) : ∃ N, doM N o = some (doT fn o) := by
  obtain ⟨N, hN⟩ := h.eq o.s o.a ho
  refine ⟨N, ?_⟩
  unfold doM doT
  by_cases h1 : o.kind = 1
  · rw [if_pos h1, if_pos h1, hN]
  · rw [if_neg h1, if_neg h1]
    by_cases h2 : o.kind = 2
    · rw [if_pos h2, if_pos h2]
    · rw [if_neg h2, if_neg h2]
      by_cases h3 : o.kind = 3
      · rw [if_pos h3, if_pos h3]
      · rw [if_neg h3, if_neg h3]
        split <;> rfl
end Go.Nm
