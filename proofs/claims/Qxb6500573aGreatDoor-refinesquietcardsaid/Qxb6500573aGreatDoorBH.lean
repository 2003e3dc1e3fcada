/- Plain: the whole tower's Run. -/
import Derived.Test.Qxb6500573aGreatDoorBG
import Derived.Test.Qxb6500573aGreatDoorBF
import Derived.Test.Qxb6500573aGreatDoorAJ
namespace Go.Wl
open Go Go.Sl Go.Proofs
set_option linter.unusedVariables false
structure Ans where
  e : Int
  n : Int
  m : Int
  s : List UInt8
  t : List UInt8
def ansV (x : Ans) : List Value := [I x.e, I x.n, I x.m, S x.s, S x.t]
def okV (x : V) : Prop := (-9223372036854775808 ≤ x.t ∧ x.t ≤ 9223372036854775807) ∧ (0 ≤ x.n ∧ x.n < 18446744073709551616) ∧ x.s.length ≤ 1000000
instance (x : V) : Decidable (okV x) := by unfold okV; infer_instance
/-- How far the mirrors may go: rounds, panics, resumptions, the compiler's depth. -/
structure Lim where
  n : Nat
  k : Nat
  f : Nat
  d : Nat
def coEnd (r : An × Int × VM) : Option (Ans × Int × VM) :=
  if r.1.k = 3 then some (⟨r.1.e, r.2.2.vs.fuel, r.2.1, r.2.2.vs.out, [45]⟩, r.2.1, r.2.2)
  else if okV r.1.v then some (⟨if r.1.k = 2 then 12 else 0, r.2.2.vs.fuel, r.2.1, r.2.2.vs.out, showVal r.1.v⟩, r.2.1, r.2.2) else none
def coRunM (L : Lim) (im : List UInt8) (fuel : Int) (m : VM) : Option (Ans × Int × VM) :=
  if L.f ≤ 1000000000 then bind1 (loadM im fuel m) fun m1 => bind1 (coL L.n L.k L.f 0 V.nil V.nil 0 m1) coEnd else none
def runM (L : Lim) (src : List UInt8) (fuel : Int) (c : CSt) (m : VM) : Option (Ans × CSt × VM) :=
  if src.length ≤ 1000000 then
  bind1 (imgM L.d src c) fun r => match r.1 with
    | .err _ _ => none
    | .ok im => bind1 (coRunM L im fuel m) fun q => some (q.1, r.2, q.2.2)
  else none
end Go.Wl
