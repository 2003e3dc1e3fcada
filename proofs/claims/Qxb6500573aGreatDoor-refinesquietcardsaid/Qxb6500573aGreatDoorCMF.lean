/- compm: mirrors: text, order, tables, operators. -/
import Derived.Test.Qxb6500573aGreatDoorWCmD
import Derived.Test.Qxb6500573aGreatDoorAV
import Derived.Test.Qxb6500573aGreatDoorSlSt
namespace Go.Nm
open Go Go.Sl Go.Wl Go.Proofs
set_option linter.unusedVariables false
set_option linter.unusedSimpArgs false
/-- vmm.Compare. -/
def cmpR (op : Int) (a c : V) : Option (Bool × Bool) := if a.t = 2 ∧ c.t = 2 then (if numR a = true ∧ numR c = true then some (cmpM op a.n.toNat c.n.toNat, true) else none)
  else if op = 1 then some (decide (a = c), true) else if op = 2 then some (decide (a ≠ c), true)
  else if a.t ≠ 3 ∨ c.t ≠ 3 then some (false, false)
  else if op = 3 then some (Op.bytesLess a.s c.s, true) else if op = 4 then some (Op.bytesLess a.s c.s || (a.s == c.s), true) else if op = 5 then some (!(Op.bytesLess a.s c.s || (a.s == c.s)), true) else some (!Op.bytesLess a.s c.s, true)
def argL (m : RnM) : Nat → Int → Option (List Int)
  | 0, _ => some []
  | k + 1, a => if a = 0 then some [] else match ndG m a with
    | none => none
    | some d => (argL m k d.next).map (a :: ·)
def doL (e : Option Nat) : List Int → RnM → Option RnM
  | [], m => some m
  | a :: l, m => bind1 (rdo 2 a 0 e m) (doL e l)
def rcall (n : Int) (e : Option Nat) (m : RnM) : Option RnM :=
  bind1 (ndG m n) fun d => bind1 (argL m 3 d.b) fun l => bind1 (rdo 22 n l.length e m) fun m1 => bind1 (doL e l.reverse m1) fun m2 => rdo 2 d.a 0 e m2
def ritems (n i : Int) (e : Option Nat) (m : RnM) : Option RnM := if n = 0 then some m else bind1 (rdo 23 n i e m) fun m1 => rdo 2 n 0 e m1
/-- A table's index. -/
def tbOk (m : RnM) (t : V) : Prop := (0 ≤ t.n ∧ t.n < m.ts.length) ∧ m.ts.length ≤ 1000 ∧ (m.ts.getD t.n.toNat []).length ≤ 1000
instance (m : RnM) (t : V) : Decidable (tbOk m t) := by unfold tbOk; exact inferInstance
def rstore (t k v : V) (m : RnM) : Option RnM :=
  if t.t ≠ 4 then rraise [105, 110, 100, 101, 120] m
  else if ¬ (tbOk m t ∧ numR k = true) then none
  else if (setW m.ts t.n.toNat k v).2 = 8 then some (rfin 8 [45] { m with ts := (setW m.ts t.n.toNat k v).1 })
  else if (setW m.ts t.n.toNat k v).2 ≠ 0 then rraise [107, 101, 121] { m with ts := (setW m.ts t.n.toNat k v).1 }
  else some { m with ts := (setW m.ts t.n.toNat k v).1 }
def rbin (op : Int) (a b : V) (m : RnM) : Option RnM :=
  if ¬ (-1000000 ≤ op ∧ op ≤ 1000000) then none
  else if op = 20 then (if (a.t ≠ 3 ∧ a.t ≠ 2) ∨ (b.t ≠ 3 ∧ b.t ≠ 2) then rraise [99, 111, 110, 99, 97, 116] m
    else bind1 (textM a) fun l => bind1 (textM b) fun r => if ¬ (l.length ≤ 1000000 ∧ r.length ≤ 1000000) then none else if 40 < l.length + r.length then rraise [108, 111, 110, 103] m else rpush ⟨3, 0, l ++ r⟩ m)
  else if 10 < op then bind2 (cmpR (op - 10) a b) fun q good => if good = false then rraise [99, 111, 109, 112, 97, 114, 101] m else rpush (boolV q) m
  else if a.t ≠ 2 ∨ b.t ≠ 2 then rraise [97, 114, 105, 116, 104] m
  else if numR a = true ∧ numR b = true then rpush ⟨2, (arithT op a.n.toNat b.n.toNat : Nat), []⟩ m else none
def run1 (op : Int) (a : V) (m : RnM) : Option RnM :=
  if op = 2 then rpush (boolV (!truthy a)) m
  else if op = 1 then (if a.t ≠ 2 then rraise [97, 114, 105, 116, 104] m else if numR a = true then rpush ⟨2, (negM a.n.toNat : Nat), []⟩ m else none)
  else if op = 3 then (if a.t = 4 then (if tbOk m a then rpush ⟨2, (FloatKind.f64.nearest (lenW m.ts a.n.toNat) : Nat), []⟩ m else none)
    else if a.t ≠ 3 then rraise [108, 101, 110] m else if a.s.length ≤ 1000000 then rpush ⟨2, (FloatKind.f64.nearest (a.s.length : Int) : Nat), []⟩ m else none)
  else some m
/-- The tables, opened. -/
theorem isRm_tab {x : RX} {eb hb : List Nat} {m : RnM} {s : Seg} (h : isRm x eb hb m s) : ∃ A sB, s = List.flatten [A, sB] ∧ isTm x.tb x.nb m.ts sB ∧ (∀ H : Hp, Cell (A :: H) x.b (0 + 1) (ptr x.tb)) ∧ ∀ ts' sB', isTm x.tb x.nb ts' sB' → isRm x eb hb { m with ts := ts' } (List.flatten [A, sB']) := by
  obtain ⟨ca, cc, ha, hc, sN, sC, sH, sT, sB, rfl, h1, h2, h3, h4, h5, h6⟩ := h
  refine ⟨List.flatten [blk x.b 142 (rnV x ca ha cc hc m), sN, sC, sH, sT, evS eb eb m.envs], sB, by simp, h5, fun H => Cell.inF (Cell.head (rnV_at x ca ha cc hc m h6.st).2.1), fun ts' sB' h' => ⟨ca, cc, ha, hc, sN, sC, sH, sT, sB', ?_, h1, h2, h3, h4, h', ⟨h6.el, h6.hl, h6.tk, h6.cl, h6.ev, h6.st⟩⟩⟩
  show _ = List.flatten [blk x.b 142 (rnV x ca ha cc hc m), sN, sC, sH, sT, evS eb eb m.envs, sB']
  simp
end Go.Nm
