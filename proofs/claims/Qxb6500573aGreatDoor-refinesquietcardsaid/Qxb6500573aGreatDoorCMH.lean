/- compm: mirrors: a statement. -/
import Derived.Test.Qxb6500573aGreatDoorWCmG
namespace Go.Nm
open Go Go.Sl Go.Wl Go.Proofs
set_option linter.unusedVariables false
set_option linter.unusedSimpArgs false
def brkP : List TkM → Option (TkM × List TkM)
  | [] => none
  | q :: l => if q.k = 4 then some (q, l) else brkP l
def rbrk (m : RnM) : Option RnM :=
  if ¬ (curOk m ∧ (thG m).tasks.length ≤ 1000000 ∧ (thG m).vals.length ≤ 1000000) then none
  else match brkP (thG m).tasks.reverse with
    | none => some (rset m { thG m with tasks := [] })
    | some (q, l) => if 0 ≤ q.x ∧ q.x ≤ (thG m).vals.length then some (rset m { thG m with tasks := l.reverse, vals := (thG m).vals.take q.x.toNat }) else none
theorem brk_snoc (l0 : List TkM) (q : TkM) : brkP (l0 ++ [q]).reverse = if q.k = 4 then some (q, l0.reverse) else brkP l0.reverse := by
  rw [List.reverse_append]; rfl
def rfor (n : Int) (d : Nd) (h : Int) (e : Option Nat) (m : RnM) : Option RnM :=
  bind1 (rdo 4 0 h none m) fun m2 => bind1 (rdo 15 n 0 e m2) fun m3 => bind1 (ndG m3 d.a) fun g => bind1 (ndG m3 g.next) fun g2 =>
    bind1 (if g2.next ≠ 0 then rdo 2 g2.next 0 e m3 else rdo 2 0 1 e m3) fun m4 => bind1 (rdo 2 g.next 0 e m4) fun m5 => rdo 2 d.a 0 e m5
def rstmt (n : Int) (e : Option Nat) (m : RnM) : Option RnM := bind1 (ndG m n) fun d =>
  if d.k = 1 then bind1 (rdo 6 n 0 e m) fun m1 => if d.a ≠ 0 then rdo 2 d.a 0 e m1 else rpush V.nil m1
  else if d.k = 2 then bind1 (rdo 7 n 0 e m) fun m1 => rcall d.b e m1
  else if d.k = 3 then (if ∀ i, e = some i → i < m.envs.length then bind1 (rdo 8 n 0 (some m.envs.length) { m with envs := m.envs ++ [⟨d.s, V.nil, e⟩] }) fun m1 => rdo 2 d.a 0 (some m.envs.length) m1 else none)
  else bind1 (rdo 1 d.next 0 e m) fun m1 => if ¬ curOk m1 then none
    else if d.k = 4 then bind1 (ndG m1 d.a) fun g => (if g.k = 17 then bind1 (rdo 9 d.a 0 e m1) fun m2 => rdo 2 d.b 0 e m2
      else bind1 (rdo 10 0 0 e m1) fun m2 => bind1 (rdo 2 d.b 0 e m2) fun m3 => bind1 (rdo 2 g.b 0 e m3) fun m4 => rdo 2 g.a 0 e m4)
    else if d.k = 5 then bind1 (rdo 5 0 0 none m1) fun m2 => rdo 2 d.a 0 e m2
    else if d.k = 6 then bind1 (rdo 11 n 0 e m1) fun m2 => rdo 2 d.a 0 e m2
    else if d.k = 7 then bind1 (rdo 4 0 (thG m1).vals.length none m1) fun m2 => rdo 12 n 0 e m2
    else if d.k = 8 then rfor n d (thG m1).vals.length e m1
    else if d.k = 9 then bind1 (rdo 4 0 (thG m1).vals.length none m1) fun m2 => bind1 (rdo 18 n 0 e m2) fun m3 => rdo 2 d.b 0 e m3
    else if d.k = 10 then bind1 (rdo 21 0 0 none m1) fun m2 => bind1 (rdo 2 d.b 0 e m2) fun m3 => rdo 2 d.a 0 e m3
    else if d.k = 11 then rbrk m1
    else some m1
end Go.Nm
