/- Plain: package vm, the builtins. -/
import Derived.Test.Qxb6500573aGreatDoorAZ
namespace Go.Wl
open Go Go.Sl Go.Proofs
set_option linter.unusedVariables false
def pairV (p : V × V) : Value := .tuple #[.agg (valV p.1).toArray, .agg (valV p.2).toArray]
def bPrintM (a : V) (m : VM) : Option (Out (V × V)) := bind1 (textM a) fun t => if m.vs.out.length ≤ 1000000 ∧ t.length ≤ 1000000 then (if 200 < (m.vs.out.length : Int) + t.length + 1 then some (.trp 10 m) else some (.ok (V.nil, V.nil) { m with vs := { m.vs with out := m.vs.out ++ t ++ [10] } })) else none
def bStrM (a : V) (m : VM) : Option (Out (V × V)) := bind1 (textM a) fun t => some (.ok (strV t, V.nil) m)
def bNumM (a : V) (m : VM) : Option (Out (V × V)) := if a.t = 2 then some (.ok (a, V.nil) m) else if a.t = 3 then (if a.s.length ≤ 1000000 then bind2 (parseM a.s) fun f e => if e = 0 then some (.ok (⟨2, (f : Nat), []⟩, V.nil) m) else some (.ok (V.nil, V.nil) m) else none) else some (.ok (V.nil, V.nil) m)
def bTypeM (a : V) (m : VM) : Option (Out (V × V)) := some (.ok (strV (typeName a.t), V.nil) m)
def bErrorM (a : V) (m : VM) : Option (Out (V × V)) := some (.thr a m)
def bNextM (a k : V) (m : VM) : Option (Out (V × V)) := bindO (some (tabOfM a s_next m)) fun h m => if 0 ≤ h ∧ h < m.vs.tabs.length ∧ m.vs.tabs.length ≤ 1000 ∧ 0 ≤ k.n then bind1 (nextM m.vs.tabs h k) fun r => if r.2.2 ≠ 0 then some (.thr (strV s_next) m) else some (.ok (r.1, r.2.1) m) else none
def bCreateM (a : V) (m : VM) : Option (Out (V × V)) := if a.t ≠ 5 then some (.thr (strV s_call) m) else if 5 ≤ (m.vs.threads.length : Int) then some (.trp 8 m) else if 0 ≤ a.n ∧ a.n ≤ 1000000000 then bind2 (spawnM a.n m) fun r m => some (.ok (⟨7, r, []⟩, V.nil) m) else none
def bStatusM (a : V) (m : VM) : Option (Out (V × V)) := if a.t ≠ 7 then some (.thr (strV s_co) m) else bind1 (getI m.vs.threads a.n) fun t => some (.ok (strV (statusName t.st), V.nil) m)
/-- The three arguments of a builtin. -/
def Args3 (seg sx : Seg) (q o : Nat) (a b c : V) : Prop := ∀ H : Hp, Cells (seg :: sx :: H) q o (valV a ++ valV b ++ valV c)
section
variable {seg sx : Seg} {q o : Nat} {a b c : V}
theorem Args3.a0 (h : Args3 seg sx q o a b c) {H : Hp} : Cells (seg :: sx :: H) q (o + (0 : Int).toNat * 3) (valV a) := Cells.sub (k := 0) (h H) rfl
theorem Args3.a1 (h : Args3 seg sx q o a b c) {H : Hp} : Cells (seg :: sx :: H) q (o + (1 : Int).toNat * 3) (valV b) := Cells.sub (k := 3) (h H) rfl
theorem Args3.a2 (h : Args3 seg sx q o a b c) {H : Hp} : Cells (seg :: sx :: H) q (o + (2 : Int).toNat * 3) (valV c) := Cells.sub (k := 6) (h H) rfl
end
end Go.Wl
