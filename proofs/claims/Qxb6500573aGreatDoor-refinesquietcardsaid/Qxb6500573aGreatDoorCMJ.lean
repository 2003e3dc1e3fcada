/- compm: mirrors: one step. -/
import Derived.Test.Qxb6500573aGreatDoorCMI
namespace Go.Nm
open Go Go.Sl Go.Wl Go.Proofs
set_option linter.unusedVariables false
set_option linter.unusedSimpArgs false
/-- The k-th value from the top (1: the top). -/
def vTop (k : Nat) (m : RnM) : Option V := if curOk m ∧ ((thG m).vals.length ≤ 1000000 ∧ k ≤ (thG m).vals.length ∧ 1 ≤ k) then (thG m).vals[(thG m).vals.length - k]? else none
def newE (t : List UInt8) (v : V) (e : Option Nat) (m : RnM) : Option (Nat × RnM) := if ∀ i, e = some i → i < m.envs.length then some (m.envs.length, { m with envs := m.envs ++ [⟨t, v, e⟩] }) else none
def setE (i : Nat) (v : V) (m : RnM) : Option RnM := if i < m.envs.length then some { m with envs := m.envs.set i { (m.envs.getD i evD) with v := v } } else none
def rcutV (k : Nat) (m : RnM) : Option RnM := if curOk m ∧ ((thG m).vals.length ≤ 1000000 ∧ k ≤ (thG m).vals.length) then some (rset m { thG m with vals := (thG m).vals.take ((thG m).vals.length - k) }) else none
def rputV (k : Nat) (v : V) (m : RnM) : Option RnM := if curOk m ∧ ((thG m).vals.length ≤ 1000000 ∧ k ≤ (thG m).vals.length ∧ 1 ≤ k) then some (rset m { thG m with vals := (thG m).vals.set ((thG m).vals.length - k) v }) else none
def k6 (d : Nd) (e : Option Nat) (m : RnM) : Option RnM := bind2 (rpop m) fun v m1 => bind2 (newE d.s v e m1) fun i m2 => rdo 1 d.next 0 (some i) m2
def k7 (d : Nd) (e : Option Nat) (m : RnM) : Option RnM := bind2 (rpop m) fun b m1 => bind2 (rpop m1) fun a m2 => bind1 (ndG m2 d.a) fun n1 => bind1 (ndG m2 n1.next) fun n2 =>
  bind2 (newE n1.s a e m2) fun i m3 => bind2 (newE n2.s b (some i) m3) fun j m4 => rdo 1 d.next 0 (some j) m4
def k8 (d : Nd) (e : Option Nat) (m : RnM) : Option RnM := match e with
  | none => none
  | some i => bind2 (rpop m) fun v m1 => bind1 (setE i v m1) fun m2 => rdo 1 d.next 0 (some i) m2
def k9 (d : Nd) (e : Option Nat) (m : RnM) : Option RnM := bind2 (rpop m) fun v m1 => bind1 (rfind m1 e d.s) fun r => match r with
  | some i => setE i v m1
  | none => rstore ⟨4, 0, []⟩ ⟨3, 0, d.s⟩ v m1
def k10 (m : RnM) : Option RnM := bind2 (rpop m) fun v m1 => bind2 (rpop m1) fun k m2 => bind2 (rpop m2) fun t m3 => rstore t k v m3
def k15 (q : TkM) (m : RnM) : Option RnM := bind1 (vTop 3 m) fun a => bind1 (vTop 2 m) fun b => bind1 (vTop 1 m) fun c =>
  if a.t ≠ 2 ∨ b.t ≠ 2 ∨ c.t ≠ 2 then rraise [102, 111, 114] m
  else if numR c = true then (if cmpM 5 c.n.toNat 0 = false ∧ cmpM 3 c.n.toNat 0 = false then rraise [102, 111, 114] m else rdo 16 q.n 0 q.e m) else none
def k16 (q : TkM) (d : Nd) (m : RnM) : Option RnM := bind1 (vTop 3 m) fun a => bind1 (vTop 2 m) fun b => bind1 (vTop 1 m) fun c =>
  if numR a = true ∧ numR b = true ∧ numR c = true then
    (if (if cmpM 5 c.n.toNat 0 = true then cmpM 4 a.n.toNat b.n.toNat else cmpM 6 a.n.toNat b.n.toNat) = false then rcutV 3 m
     else bind1 (rdo 17 q.n 0 q.e m) fun m1 => bind2 (newE d.s a q.e m1) fun i m2 => rdo 1 d.b 0 (some i) m2)
  else none
def k17 (q : TkM) (m : RnM) : Option RnM := bind1 (vTop 3 m) fun a => bind1 (vTop 1 m) fun c =>
  if numR a = true ∧ numR c = true then bind1 (rputV 3 { a with n := (arithT 1 a.n.toNat c.n.toNat : Nat) } m) fun m1 => bind2 (rburn m1) fun ok m2 => if ok = true then rdo 16 q.n 0 q.e m2 else some m2
  else none
def k18 (q : TkM) (m : RnM) : Option RnM := bind1 (vTop 1 m) fun t => if t.t ≠ 4 then rraise [102, 111, 114] m else bind1 (rpush V.nil m) fun m1 => rdo 19 q.n 0 q.e m1
def k19 (q : TkM) (d : Nd) (m : RnM) : Option RnM := bind1 (vTop 2 m) fun t => bind1 (vTop 1 m) fun k =>
  if ¬ (tbOk m t ∧ numR k = true) then none
  else if (nextW m.ts t.n.toNat k).1.t = 0 then rcutV 2 m
  else bind1 (rputV 1 (nextW m.ts t.n.toNat k).1 m) fun m1 => bind1 (ndG m1 d.a) fun n1 => bind1 (ndG m1 n1.next) fun n2 =>
    bind2 (newE n1.s (nextW m.ts t.n.toNat k).1 q.e m1) fun i m2 => bind1 (rdo 20 q.n 0 q.e m2) fun m3 => bind2 (newE n2.s (nextW m.ts t.n.toNat k).2.1 (some i) m3) fun j m4 => rdo 1 d.c 0 (some j) m4
def kBack (k : Int) (q : TkM) (m : RnM) : Option RnM := bind2 (rburn m) fun ok m2 => if ok = true then rdo k q.n 0 q.e m2 else some m2
def k23 (q : TkM) (d : Nd) (m : RnM) : Option RnM := bind2 (rpop m) fun v m1 => bind1 (vTop 1 m1) fun t =>
  if -9223372036854775808 ≤ q.x ∧ q.x < 9223372036854775807 then bind1 (rstore t ⟨2, (FloatKind.f64.nearest q.x : Nat), []⟩ v m1) fun m2 => if m2.done = false then ritems d.next (q.x + 1) q.e m2 else some m2 else none
def k28 (m : RnM) : Option RnM := bind2 (rpop m) fun k m1 => bind2 (rpop m1) fun t m2 =>
  if t.t ≠ 4 then rraise [105, 110, 100, 101, 120] m2 else if tbOk m2 t ∧ numR k = true then rpush (getW m2.ts t.n.toNat k).1 m2 else none
def rtask (q : TkM) (d : Nd) (m : RnM) : Option RnM :=
  if q.k = 1 then (if q.n ≠ 0 then rstmt q.n q.e m else some m)
  else if q.k = 2 then reval q.n q.x q.e m
  else if q.k = 3 then (if curOk m ∧ (thG m).tasks.length ≤ 1000000 then rret V.nil V.nil (rset m { thG m with tasks := (thG m).tasks ++ [q] }) else none)
  else if q.k = 4 then some m
  else if q.k = 5 then bind2 (rpop m) fun _ m1 => some m1
  else if q.k = 6 then k6 d q.e m
  else if q.k = 7 then k7 d q.e m
  else if q.k = 8 then k8 d q.e m
  else if q.k = 9 then k9 d q.e m
  else if q.k = 10 then k10 m
  else if q.k = 11 then bind2 (rpop m) fun c m1 => (if truthy c = true then rdo 1 d.b 0 q.e m1 else rdo 1 d.c 0 q.e m1)
  else if q.k = 12 then bind1 (rdo 13 q.n 0 q.e m) fun m1 => rdo 2 d.a 0 q.e m1
  else if q.k = 13 then bind2 (rpop m) fun c m1 => (if truthy c = true then bind1 (rdo 14 q.n 0 q.e m1) fun m2 => rdo 1 d.b 0 q.e m2 else some m1)
  else if q.k = 14 then kBack 12 q m
  else if q.k = 15 then k15 q m
  else if q.k = 16 then k16 q d m
  else if q.k = 17 then k17 q m
  else if q.k = 18 then k18 q m
  else if q.k = 19 then k19 q d m
  else if q.k = 20 then kBack 19 q m
  else if q.k = 21 then bind2 (rpop m) fun b m1 => bind2 (rpop m1) fun a m2 => rret a b m2
  else if q.k = 22 then rapply q.x m
  else if q.k = 23 then k23 q d m
  else if q.k = 24 then bind2 (rpop m) fun b m1 => bind2 (rpop m1) fun a m2 => (if 0 ≤ d.n ∧ d.n < 1000000 then rbin d.n a b m2 else none)
  else if q.k = 25 then bind2 (rpop m) fun a m1 => (if 0 ≤ d.n ∧ d.n < 1000000 then run1 d.n a m1 else none)
  else if q.k = 26 then bind1 (vTop 1 m) fun v => (if truthy v = true then bind2 (rpop m) fun _ m1 => rdo 2 d.b 0 q.e m1 else some m)
  else if q.k = 27 then bind1 (vTop 1 m) fun v => (if truthy v = false then bind2 (rpop m) fun _ m1 => rdo 2 d.b 0 q.e m1 else some m)
  else if q.k = 28 then k28 m
  else some m
def rstep (m : RnM) : Option RnM :=
  if ¬ (curOk m ∧ (0 < (thG m).tasks.length ∧ (thG m).tasks.length ≤ 1000000)) then none
  else
    let q := (thG m).tasks.getD ((thG m).tasks.length - 1) ⟨0, 0, 0, none⟩
    let m0 := rset m { thG m with tasks := (thG m).tasks.take ((thG m).tasks.length - 1) }
    if q.k = 3 then rtask q nd0 m0 else bind1 (ndG m0 q.n) fun d => rtask q d m0
end Go.Nm
