/- Plain: package co, the run of a coroutine. -/
import Derived.Test.Qxb6500573aGreatDoorBD
namespace Go.Wl
open Go Go.Sl Go.Proofs
set_option linter.unusedVariables false
structure An where
  k : Int
  v : V
  e : Int
def anV (x : An) : List Value := [I x.k] ++ valV x.v ++ [I x.e]
/-- One number bounds both the rounds and the depth. -/
def coL (n k : Nat) : Nat → Nat → V → V → Int → VM → Option (An × Int × VM)
  | 0, _, _, _, _, _ => none
  | f + 1, th, a, c, cn, m => bind2 (execM th a c n k m) fun e m =>
    if e.k = 4 then (if (0 ≤ e.co ∧ e.co ≤ 1000000) ∧ 0 ≤ cn ∧ cn ≤ 1000000000 then
        bind1 (coL n k f e.co.toNat e.a V.nil (if statusV e.co m = 1 then cn + 1 else cn) m) fun r => if r.1.k = 3 then some r else coL n k f th (boolV (decide (r.1.k = 1))) r.1.v r.2.1 r.2.2 else none)
    else if e.k = 3 then some (⟨1, e.a, 0⟩, cn, m) else if e.k = 1 then some (⟨1, e.a, 0⟩, cn, m) else if e.k = 2 then some (⟨2, e.a, 0⟩, cn, m) else if e.k = 5 then some (⟨3, V.nil, e.e⟩, cn, m) else some (⟨3, V.nil, 21⟩, cn, m)
end Go.Wl
