/- Plain: the third law: what its walk asks of the plain side. -/
import Derived.Test.Qxb6500573aGreatDoorBFd
import Derived.Test.Qxb6500573aGreatDoorBJ
namespace Go.Wl
open Go Go.Sl Go.Proofs
set_option linter.unusedVariables false
def isSynE (e : Int) : Bool := decide (e = 1 ∨ e = 2 ∨ (13 ≤ e ∧ e ≤ 20))
def isEndE (e : Int) : Bool := decide (e = 0 ∨ e = 12 ∨ e = 9 ∨ e = 8 ∨ e = 10)
def i64r (a : Int) : Prop := -9223372036854775808 ≤ a ∧ a ≤ 9223372036854775807
/-- What the law says of the answers fn at one text and one fuel. -/
structure KProp (fn : List UInt8 → Int → Ans) (src : List UInt8) (A : Int) : Prop where
  long : (fn src A).e = 1 ↔ 2048 < src.length
  syn : isSynE (fn src A).e = true → fn src 0 = fn src A ∧ (0 ≤ (fn src A).n ∧ (fn src A).n ≤ src.length) ∧ (fn src A).s = [] ∧ (fn src A).t = []
  fin : isSynE (fn src A).e = false → isEndE (fn src A).e = true ∧ (fn src A).t ≠ [] ∧ (((fn src A).e = 0 ∨ (fn src A).e = 12) ↔ (fn src A).t ≠ [45]) ∧ (0 ≤ (fn src A).m ∧ (fn src A).m < 5) ∧
    (0 ≤ (fn src A).n ∧ (0 < (fn src A).n → (fn src A).n ≤ A)) ∧ ((fn src A).e = 9 → (fn src A).n = 0) ∧ (A ≤ 0 → (fn src A).s = [])
  more : isSynE (fn src A).e = false → 0 ≤ A → A < 4611686018427387904 → ((fn src A).e = 9 → (fn src A).s <+: (fn src (A + 1)).s ∧ (fn src A).m ≤ (fn src (A + 1)).m) ∧
    ((fn src A).e ≠ 9 → fn src (A + 1) = ⟨(fn src A).e, (fn src A).n + 1, (fn src A).m, (fn src A).s, (fn src A).t⟩)
structure KLaw (J : CSt → VM → Prop) (fn : List UInt8 → Int → Ans) : Prop where
  init : J cst0 m00
  step : ∀ (c : CSt) (m : VM) (src : List UInt8) (A : Int), J c m → i64r A → ∃ L c1 m1, runK L src A c m = some (fn src A, c1, m1) ∧ J c1 m1
  prop : ∀ (src : List UInt8) (A : Int), i64r A → KProp fn src A
def OpOk (o : Op1) : Prop := i64r o.kind ∧ i64r o.a
end Go.Wl
