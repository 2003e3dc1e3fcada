/- Plain data of package api. -/
import Derived.Test.Qxb6500573aGreatDoorFacts
import Derived.Test.Qxb6500573aGreatDoorSlV
namespace Go.Wl
open Go Go.Sl
set_option linter.unusedVariables false
/-- api.Val. -/
structure V where
  t : Int
  n : Int
  s : List UInt8
deriving DecidableEq
def V.nil : V := ⟨0, 0, []⟩
def valV (v : V) : List Value := [I v.t, .int .u64 v.n, S v.s]
theorem valV_len (v : V) : (valV v).length = 3 := rfl
def digs : Nat → Nat → List UInt8
  | 0, _ => []
  | f + 1, u => if u = 0 then [] else digs f (u / 10) ++ [UInt8.ofNat (48 + u % 10)]
theorem digs_zero (f : Nat) : digs f 0 = [] := by cases f <;> simp [digs]
theorem digs_len : ∀ (f u : Nat), (digs f u).length ≤ f
  | 0, _ => by simp [digs]
  | f + 1, u => by
    simp only [digs]
    split
    · simp
    · have := digs_len f (u / 10); simp; omega
def utoa (u : Nat) : List UInt8 := if u = 0 then [48] else digs 20 u
def itoa (n : Int) : List UInt8 := if n < 0 then [45] ++ utoa n.natAbs else utoa n.natAbs
theorem utoa_len (u : Nat) : (utoa u).length ≤ 20 := by
  unfold utoa
  split
  · decide
  · exact digs_len 20 u
theorem itoa_len (n : Int) : (itoa n).length ≤ 21 := by
  unfold itoa
  have := utoa_len n.natAbs
  split <;> simp <;> omega
def showVal (v : V) : List UInt8 :=
  if v.t = 3 ∧ v.n = 0 then [115] ++ itoa v.s.length ++ [58] ++ v.s
  else if v.s.length = 0 then [118] ++ itoa v.t ++ [46] ++ utoa v.n.toNat
  else [118] ++ itoa v.t ++ [46] ++ utoa v.n.toNat ++ [33] ++ itoa v.s.length ++ [58] ++ v.s
def boolV (b : Bool) : V := if b then ⟨1, 1, []⟩ else ⟨1, 0, []⟩
def truthy (v : V) : Bool := if v.t = 0 then false else decide (v.t ≠ 1 ∨ v.n ≠ 0)
def statusName (n : Int) : List UInt8 := if n = 1 ∨ n = 2 then [115, 117, 115, 112, 101, 110, 100, 101, 100] else if n = 3 then [110, 111, 114, 109, 97, 108] else if n = 4 then [114, 117, 110, 110, 105, 110, 103] else [100, 101, 97, 100]
def well (v : V) : Bool :=
  if v.t = 3 then decide (v.n = 0 ∧ v.s.length ≤ 40)
  else if v.s.length ≠ 0 ∨ v.t < 0 ∨ 7 < v.t then false
  else if v.t = 0 then decide (v.n = 0)
  else if v.t = 1 then decide (v.n ≤ 1)
  else if v.t = 6 then decide (1 ≤ v.n ∧ v.n ≤ 11)
  else if v.t = 4 ∨ v.t = 5 ∨ v.t = 7 then decide (v.n < 4294967296)
  else true
def builtinName (n : Int) : List UInt8 := if n = 1 then [112, 114, 105, 110, 116] else if n = 2 then [116, 111, 115, 116, 114, 105, 110, 103] else if n = 3 then [116, 111, 110, 117, 109, 98, 101, 114] else if n = 4 then [116, 121, 112, 101] else if n = 5 then [101, 114, 114, 111, 114] else if n = 6 then [112, 99, 97, 108, 108] else if n = 7 then [110, 101, 120, 116] else if n = 8 then [99, 114, 101, 97, 116, 101] else if n = 9 then [114, 101, 115, 117, 109, 101] else if n = 10 then [121, 105, 101, 108, 100] else if n = 11 then [115, 116, 97, 116, 117, 115] else []
def typeName (t : Int) : List UInt8 := if t = 0 then [110, 105, 108] else if t = 1 then [98, 111, 111, 108, 101, 97, 110] else if t = 2 then [110, 117, 109, 98, 101, 114] else if t = 3 then [115, 116, 114, 105, 110, 103] else if t = 4 then [116, 97, 98, 108, 101] else if t = 7 then [116, 104, 114, 101, 97, 100] else [102, 117, 110, 99, 116, 105, 111, 110]
end Go.Wl
