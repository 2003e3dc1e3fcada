/- Plain: package co, the run of a coroutine, depth and rounds apart; the whole tower's Run, total. -/
import Derived.Test.Qxb6500573aGreatDoorBH
namespace Go.Wl
open Go Go.Sl Go.Proofs
set_option linter.unusedVariables false
/-- The rounds of one call of run; sub: the calls within. -/
def coR (n k : Nat) (sub : Nat → V → V → Int → VM → Option (An × Int × VM)) : Nat → Nat → V → V → Int → VM → Option (An × Int × VM)
  | 0, _, _, _, _, _ => none
  | f + 1, th, a, c, cn, m => bind2 (execM th a c n k m) fun e m =>
    if e.k = 4 then (if (0 ≤ e.co ∧ e.co ≤ 1000000) ∧ 0 ≤ cn ∧ cn ≤ 1000000000 then
        bind1 (sub e.co.toNat e.a V.nil (if statusV e.co m = 1 then cn + 1 else cn) m) fun r => if r.1.k = 3 then some r else coR n k sub f th (boolV (decide (r.1.k = 1))) r.1.v r.2.1 r.2.2 else none)
    else if e.k = 3 then some (⟨1, e.a, 0⟩, cn, m) else if e.k = 1 then some (⟨1, e.a, 0⟩, cn, m) else if e.k = 2 then some (⟨2, e.a, 0⟩, cn, m) else if e.k = 5 then some (⟨3, V.nil, e.e⟩, cn, m) else some (⟨3, V.nil, 21⟩, cn, m)
/-- Calls of run, d deep at most, R rounds each at most. -/
def coD (n k R : Nat) : Nat → Nat → V → V → Int → VM → Option (An × Int × VM)
  | 0 => fun _ _ _ _ _ => none
  | d + 1 => coR n k (coD n k R d) R
def coRunK (L : Lim) (im : List UInt8) (fuel : Int) (m : VM) : Option (Ans × Int × VM) :=
  bind1 (loadM im fuel m) fun m1 => bind1 (coD L.n L.k L.f 6 0 V.nil V.nil 0 m1) coEnd
def runK (L : Lim) (src : List UInt8) (fuel : Int) (c : CSt) (m : VM) : Option (Ans × CSt × VM) :=
  bind1 (imgM L.d src c) fun r => match r.1 with
    | .err e a => some (⟨e, a, 0, [], []⟩, r.2, m)
    | .ok im => bind1 (coRunK L im fuel m) fun q => some (q.1, r.2, q.2.2)
end Go.Wl
