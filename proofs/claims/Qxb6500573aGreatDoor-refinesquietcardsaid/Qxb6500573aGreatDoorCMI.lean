/- compm: mirrors: a call. -/
import Derived.Test.Qxb6500573aGreatDoorWCmH
namespace Go.Nm
open Go Go.Sl Go.Wl Go.Proofs
set_option linter.unusedVariables false
set_option linter.unusedSimpArgs false
def popN : Nat → RnM → Option (List V × RnM)
  | 0, m => some ([], m)
  | k + 1, m => bind2 (rpop m) fun v m1 => bind2 (popN k m1) fun l m2 => some (l ++ [v], m2)
def rfin2 (p q : V) (m : RnM) : Option RnM := bind1 (rpush p m) fun m1 => rpush q m1
def strK (s : List UInt8) : V := ⟨3, 0, s⟩
def rprint (a : V) (m : RnM) : Option RnM := bind1 (textM a) fun l => if ¬ (l.length ≤ 1000000 ∧ m.out.length ≤ 1000000) then none
  else if 200 < m.out.length + l.length + 1 then some (rfin 10 [45] m) else rfin2 V.nil V.nil { m with out := m.out ++ l ++ [10] }
def rtonum (a : V) (m : RnM) : Option RnM := if a.t = 2 then rfin2 a V.nil m
  else if a.t = 3 then (if ¬ a.s.length ≤ 1000000 then none else if (parseW a.s).2 = 0 then rfin2 ⟨2, ((parseW a.s).1 : Nat), []⟩ V.nil m else rfin2 V.nil V.nil m)
  else rfin2 V.nil V.nil m
/-- A closure's index. -/
def idx (m : RnM) (v : V) (n : Nat) : Prop := 0 ≤ v.n ∧ v.n < n
def rpcall (a b : V) (m : RnM) : Option RnM := if ¬ curOk m then none
  else if a.t ≠ 5 then rfin2 ⟨1, 0, []⟩ (strK [99, 97, 108, 108]) m
  else if 8 ≤ (thG m).depth then rfin2 ⟨1, 0, []⟩ (strK [100, 101, 112, 116, 104]) m
  else if 0 ≤ a.n ∧ a.n < 1000000 then renter a.n [b] 1 m else none
def rnext (a b : V) (m : RnM) : Option RnM := if a.t ≠ 4 then rraise [110, 101, 120, 116] m
  else if ¬ (tbOk m a ∧ numR b = true) then none
  else if (nextW m.ts a.n.toNat b).2.2 ≠ 0 then rraise [110, 101, 120, 116] m
  else rfin2 (nextW m.ts a.n.toNat b).1 (nextW m.ts a.n.toNat b).2.1 m
def rcreate (a : V) (m : RnM) : Option RnM := if a.t ≠ 5 then rraise [99, 97, 108, 108] m
  else if 5 ≤ m.ths.length then some (rfin 8 [45] m)
  else if 0 ≤ a.n ∧ a.n < 1000000 then rfin2 ⟨7, m.ths.length, []⟩ V.nil { m with ths := m.ths ++ [⟨1, a.n, 0, [], []⟩] } else none
def rresume (a b : V) (m : RnM) : Option RnM := if a.t ≠ 7 then rraise [99, 111] m
  else if ¬ (curOk m ∧ (0 ≤ a.n ∧ a.n < m.ths.length) ∧ (0 ≤ m.sp ∧ m.sp < 5) ∧ (0 ≤ m.first ∧ m.first ≤ 1000000)) then none
  else
    let c := m.ths.getD a.n.toNat thD
    if c.st ≠ 1 ∧ c.st ≠ 2 then rfin2 ⟨1, 0, []⟩ (strK (statusName c.st)) m
    else
      let m1 := rset m { thG m with st := 3 }
      let c1 := m1.ths.getD a.n.toNat thD
      let m2 : RnM := { m1 with stk := m.stk.set m.sp.toNat m.cur, sp := m.sp + 1, cur := a.n, ths := m1.ths.set a.n.toNat { c1 with st := 4 } }
      if c1.st = 1 then (if 0 ≤ c1.fn ∧ c1.fn < 1000000 then renter c1.fn [b] 0 { m2 with first := m.first + 1 } else none) else rfin2 b V.nil m2
def ryield (a : V) (m : RnM) : Option RnM := if m.cur = 0 then rraise [121, 105, 101, 108, 100] m
  else if ¬ (curOk m ∧ (1 ≤ m.sp ∧ m.sp ≤ 5)) then none
  else
    let m1 := rset m { thG m with st := 2 }
    let m2 : RnM := { m1 with sp := m.sp - 1, cur := m.stk.getD (m.sp - 1).toNat 0 }
    if ¬ curOk m2 then none else rfin2 ⟨1, 1, []⟩ a (rset m2 { thG m2 with st := 4 })
def rstatus (a : V) (m : RnM) : Option RnM := if a.t ≠ 7 then rraise [99, 111] m
  else if 0 ≤ a.n ∧ a.n < m.ths.length ∧ m.ths.length ≤ 1000 then rfin2 (strK (statusName (m.ths.getD a.n.toNat thD).st)) V.nil m else none
def rbuilt (n : Int) (a b : V) (m : RnM) : Option RnM :=
  if n = 1 then rprint a m
  else if n = 2 then bind1 (textM a) fun l => rfin2 (strK l) V.nil m
  else if n = 3 then rtonum a m
  else if n = 4 then rfin2 (strK (typeName a.t)) V.nil m
  else if n = 5 then rthrow a m
  else if n = 6 then rpcall a b m
  else if n = 7 then rnext a b m
  else if n = 8 then rcreate a m
  else if n = 9 then rresume a b m
  else if n = 10 then ryield a m
  else if n = 11 then rstatus a m
  else rfin2 V.nil V.nil m
def rapply (y : Int) (m : RnM) : Option RnM := bind2 (rburn m) fun ok m1 => if ok = false then some m1
  else if ¬ (curOk m1 ∧ (0 ≤ y ∧ y ≤ 3)) then none
  else bind2 (popN y.toNat m1) fun args m2 => bind2 (rpop m2) fun fn m3 =>
    if ¬ (curOk m3 ∧ m3.cur = m1.cur) then none
    else if fn.t = 5 then (if 8 ≤ (thG m3).depth then rraise [100, 101, 112, 116, 104] m3 else if 0 ≤ fn.n ∧ fn.n < 1000000 then renter fn.n args 0 m3 else none)
    else if fn.t ≠ 6 then rraise [99, 97, 108, 108] m3
    else if 0 ≤ fn.n ∧ fn.n < 1000000 then rbuilt fn.n (args.getD 0 V.nil) (args.getD 1 V.nil) m3 else none
end Go.Nm
