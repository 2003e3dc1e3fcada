/- compm: mirrors of the small functions. -/
import Derived.Test.Qxb6500573aGreatDoorCMC
import Derived.Test.Qxb6500573aGreatDoorAP
namespace Go.Nm
open Go Go.Sl Go.Wl Go.Proofs
set_option linter.unusedVariables false
set_option linter.unusedSimpArgs false
def thD : ThM := ⟨0, 0, 0, [], []⟩
def thG (m : RnM) : ThM := m.ths.getD m.cur.toNat thD
def rset (m : RnM) (t : ThM) : RnM := { m with ths := m.ths.set m.cur.toNat t }
def curOk (m : RnM) : Prop := (0 ≤ m.cur ∧ m.cur < m.ths.length) ∧ m.ths.length ≤ 1000
instance (m : RnM) : Decidable (curOk m) := by unfold curOk; exact inferInstance
theorem thG_eq {m : RnM} {c : Nat} (h : m.cur = c) (hc : c < m.ths.length) : thG m = m.ths[c] := by
  unfold thG; rw [h, Int.toNat_natCast, List.getD_eq_getElem?_getD, List.getElem?_eq_getElem hc]; rfl
def rpush (v : V) (m : RnM) : Option RnM := if curOk m ∧ (thG m).vals.length ≤ 1000000 then some (rset m { thG m with vals := (thG m).vals ++ [v] }) else none
def rpop (m : RnM) : Option (V × RnM) := if curOk m ∧ (0 < (thG m).vals.length ∧ (thG m).vals.length ≤ 1000000) then some ((thG m).vals.getD ((thG m).vals.length - 1) V.nil, rset m { thG m with vals := (thG m).vals.take ((thG m).vals.length - 1) }) else none
def rdo (k n x : Int) (e : Option Nat) (m : RnM) : Option RnM := if curOk m ∧ (thG m).tasks.length ≤ 1000000 ∧ (∀ i, e = some i → i < m.envs.length) then some (rset m { thG m with tasks := (thG m).tasks ++ [⟨k, n, x, e⟩] }) else none
def rfin (e : Int) (tail : List UInt8) (m : RnM) : RnM := { m with done := true, ans := ⟨e, m.fuel, m.first, m.out, tail⟩ }
def rburn (m : RnM) : Option (Bool × RnM) := if m.fuel = 0 then some (false, rfin 9 [45] m) else if 0 < m.fuel ∧ m.fuel ≤ 9223372036854775807 then some (true, { m with fuel := m.fuel - 1 }) else none
def rback (ok : Bool) (v : V) (m : RnM) : Option RnM :=
  if ¬ okV v then none
  else if m.sp = 0 then some (rfin (if ok = true then 0 else 12) (showVal v) m)
  else if ¬ (1 ≤ m.sp ∧ m.sp ≤ 5) then none
  else
    let m1 : RnM := { m with sp := m.sp - 1, cur := m.stk.getD (m.sp - 1).toNat 0 }
    if ¬ curOk m1 then none
    else bind1 (rpush (boolV ok) (rset m1 { thG m1 with st := 4 })) fun m2 => rpush v m2
/-- The tasks from the top down to a protected call. -/
def unwP : List TkM → Int → Option (TkM × List TkM) × Int
  | [], d => (none, d)
  | q :: l, d => if q.k = 3 then (if q.n = 1 then (some (q, l), d - 1) else unwP l (d - 1)) else unwP l d
def rthrow (v : V) (m : RnM) : Option RnM :=
  if ¬ (curOk m ∧ (thG m).tasks.length ≤ 1000000 ∧ (thG m).vals.length ≤ 1000000 ∧ (-1000000000 ≤ (thG m).depth ∧ (thG m).depth ≤ 1000000000)) then none
  else match unwP (thG m).tasks.reverse (thG m).depth with
    | (none, d) => rback false v (rset m { thG m with st := 5, depth := d, tasks := [], vals := [] })
    | (some (q, l), d) => if 0 ≤ q.x ∧ q.x ≤ (thG m).vals.length then bind1 (rpush ⟨1, 0, []⟩ (rset m { thG m with depth := d, tasks := l.reverse, vals := (thG m).vals.take q.x.toNat })) fun m1 => rpush v m1 else none
end Go.Nm
namespace Go.Nm
open Go Go.Sl Go.Wl Go.Proofs
theorem snoc_of {α : Type} {l : List α} (h : 0 < l.length) : ∃ l0 q, l = l0 ++ [q] := by
  rcases List.eq_nil_or_concat l with rfl | ⟨l0, q, rfl⟩
  · cases h
  · exact ⟨l0, q, by simp⟩
/-- The tasks from the top down to a call's foot. -/
def retP : List TkM → Option (TkM × List TkM)
  | [] => none
  | q :: l => if q.k ≠ 3 then retP l else some (q, l)
def rret (a b : V) (m : RnM) : Option RnM :=
  if ¬ (curOk m ∧ (thG m).tasks.length ≤ 1000000 ∧ (thG m).vals.length ≤ 1000000 ∧ (-1000000000 ≤ (thG m).depth ∧ (thG m).depth ≤ 1000000000)) then none
  else match retP (thG m).tasks.reverse with
    | none => some (rset m { thG m with tasks := [] })
    | some (q, l) => if ¬ (0 ≤ q.x ∧ q.x ≤ (thG m).vals.length) then none
      else
        let m1 := rset m { thG m with depth := (thG m).depth - 1, tasks := l.reverse, vals := (thG m).vals.take q.x.toNat }
        if l = [] then rback true a (rset m { thG m with st := 5, depth := (thG m).depth - 1, tasks := [], vals := (thG m).vals.take q.x.toNat })
        else if q.n = 1 then bind1 (rpush ⟨1, 1, []⟩ m1) fun m2 => rpush a m2
        else bind1 (rpush a m1) fun m2 => rpush b m2
def rraise (msg : List UInt8) (m : RnM) : Option RnM := rthrow ⟨3, 0, msg⟩ m
end Go.Nm
