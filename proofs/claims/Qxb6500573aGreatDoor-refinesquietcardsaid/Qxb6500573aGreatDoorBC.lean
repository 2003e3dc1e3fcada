/- Plain: package vm, the loop of a thread. -/
import Derived.Test.Qxb6500573aGreatDoorBB
namespace Go.Wl
open Go Go.Sl Go.Proofs
set_option linter.unusedVariables false
def sJmp (th i : Nat) (x : Int) (fl : Bool) (m : VM) : Option (Out Ev) := bind1 (getT m th) fun t => if t.stack.length ≤ 1000000 then bind1 t.stack[t.stack.length - 1]? fun v => (if truthy v = fl then bindO (jumpV th i x m) fun _ m => some (.ok ev0 m) else bind2 (popM th m) fun _ m => outE (nextPc th i m)) else none
def stepE (th i : Nat) (p : Pr) (op x : Int) (m : VM) : Option (Out Ev) :=
  if op = 21 then bindO (jumpV th i x m) fun _ m => some (.ok ev0 m) else
  if op = 22 then bind2 (popM th m) fun v m => (if truthy v = true then outE (nextPc th i m) else bindO (jumpV th i x m) fun _ m => some (.ok ev0 m)) else
  if op = 23 then sJmp th i x false m else if op = 24 then sJmp th i x true m else
  if op = 26 then vcallM th i x m else if op = 27 then bind2 (retM th i m) fun e m => some (.ok e m) else
  bindO (plainM th i p op x m) fun _ m => outE (nextPc th i m)
def effX (op x : Int) : Int × Int := if op = 26 then (x + 1, 1 - x) else effectM op
def stepS (th i : Nat) (t : Th) (f : Fr) (p : Pr) (op x : Int) (m : VM) : Option (Out Ev) := if (op = 26 → x ≤ 100) ∧ (0 ≤ f.base ∧ f.base ≤ 1000000) ∧ (0 ≤ p.nslots ∧ p.nslots ≤ 1000000) ∧ t.stack.length ≤ 1000000 then
  (if (t.stack.length : Int) - f.base - p.nslots < (effX op x).1 then some (.trp 11 m) else if 128 < (t.stack.length : Int) - f.base - p.nslots + (effX op x).2 then some (.trp 11 m) else stepE th i p op x m) else none
def vstepL (th : Nat) (m : VM) : Option (Out Ev) := bind1 (getT m th) fun t => if 1 ≤ t.frames.length ∧ t.frames.length ≤ 1000000 then
  bind1 (getF m th (t.frames.length - 1)) fun f => bind1 (getI m.vs.clos f.clo) fun cl => if 0 ≤ cl.p ∧ cl.p < 1000000 then bind1 m.pg.protos[cl.p.toNat]? fun p =>
    if (0 ≤ f.pc ∧ f.pc ≤ 1000000) ∧ 0 ≤ p.code ∧ p.code ≤ 1000000 then (if p.ncode ≤ f.pc then some (.trp 11 m) else
      bind1 (getI m.pg.code (p.code + f.pc)) fun ins => if 0 ≤ ins.2 ∧ ins.2 ≤ 65535 then bind1 (soundM th (t.frames.length - 1) p ins.1 ins.2 m) fun r => (if r = true then stepS th (t.frames.length - 1) t f p ins.1 ins.2 m else some (.trp 11 m)) else none) else none
    else none
  else none
def loopM (th : Nat) : Nat → VM → Option (Out Ev)
  | 0, _ => none
  | n + 1, m => bindO (vstepL th m) fun e m => if e.k ≠ 0 then some (.ok e m) else loopM th n m
def Bd3 (p : Int × Int) : Prop := (-3 ≤ p.1 ∧ p.1 ≤ 3) ∧ -3 ≤ p.2 ∧ p.2 ≤ 3
theorem Bd3.ite {c : Prop} [Decidable c] {x y : Int × Int} (h1 : Bd3 x) (h2 : Bd3 y) : Bd3 (if c then x else y) := by split <;> assumption
theorem effectM_bd (op : Int) : Bd3 (effectM op) := by
  unfold effectM
  repeat (first | apply Bd3.ite | (unfold Bd3; decide))
theorem nextPc_f {m m' : VM} {th i : Nat} (h : nextPc th i m = some m') : ∃ f, getF m th i = some f ∧ (0 ≤ f.pc ∧ f.pc ≤ 1000000000) ∧ pcM th i (f.pc + 1) m = some m' := by
  unfold nextPc at h
  obtain ⟨f, hf, h⟩ := bnd1 h
  have hr : 0 ≤ f.pc ∧ f.pc ≤ 1000000000 := Decidable.byContradiction fun q => by rw [if_neg q] at h; cases h
  rw [if_pos hr] at h
  exact ⟨f, hf, hr, h⟩
end Go.Wl
