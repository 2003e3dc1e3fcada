/- Plain: runs with hints: where the machine looks into a number or a text that is not known, the hint says what it finds, and what is to be shown is written down. -/
import Derived.Test.Qxb6500573aGreatDoorBH
namespace Go.Wl
open Go Go.Sl Go.Proofs
set_option linter.unusedVariables false
/-- What is to be shown. -/
inductive Ob where
  | txt (v : V) (s : List UInt8)
  | out (l s : List UInt8)
  | num (s : List UInt8) (n : Nat)
  | cat (l r s : List UInt8)
  | ar (op : Int) (a b : Int) (c : Nat)
  | rng (n : Int)
  | val (v : V)
def Ob.ok : Ob → Prop
  | .txt v s => textM v = some s
  | .out l s => l.length + s.length + 1 ≤ 200
  | .num s n => s.length ≤ 24 ∧ parseM s = some (n, 0)
  | .cat l r s => l.length + r.length ≤ 40 ∧ s = l ++ r
  | .ar op a b c => (0 ≤ a ∧ a < 18446744073709551616) ∧ (0 ≤ b ∧ b < 18446744073709551616) ∧ arithM op a.toNat b.toNat = some c
  | .rng n => 0 ≤ n ∧ n < 18446744073709551616
  | .val v => v.t = 2 ∧ v.s = [] ∧ 0 ≤ v.n ∧ cmpM 2 v.n.toNat v.n.toNat = false
def allOb (l : List Ob) : Prop := ∀ o, o ∈ l → o.ok
theorem allOb_app {a b : List Ob} (h : allOb (a ++ b)) : allOb a ∧ allOb b := ⟨fun o ho => h o (List.mem_append_left _ ho), fun o ho => h o (List.mem_append_right _ ho)⟩
structure Hint where
  s : List UInt8
  s2 : List UInt8
  r : List UInt8
  n : Nat
inductive VF where
  | trap
  | go (i : Nat) (p : Pr) (op x : Int)
def vfetch (th : Nat) (m : VM) : Option VF := bind1 (getT m th) fun t => if 1 ≤ t.frames.length ∧ t.frames.length ≤ 1000000 then
  bind1 (getF m th (t.frames.length - 1)) fun f => bind1 (getI m.vs.clos f.clo) fun cl => if 0 ≤ cl.p ∧ cl.p < 1000000 then bind1 m.pg.protos[cl.p.toNat]? fun p =>
    if (0 ≤ f.pc ∧ f.pc ≤ 1000000) ∧ 0 ≤ p.code ∧ p.code ≤ 1000000 then (if p.ncode ≤ f.pc then some .trap else
      bind1 (getI m.pg.code (p.code + f.pc)) fun ins => if 0 ≤ ins.2 ∧ ins.2 ≤ 65535 then bind1 (soundM th (t.frames.length - 1) p ins.1 ins.2 m) fun r => (if r = true then
        (if (ins.1 = 26 → ins.2 ≤ 100) ∧ (0 ≤ f.base ∧ f.base ≤ 1000000) ∧ (0 ≤ p.nslots ∧ p.nslots ≤ 1000000) ∧ t.stack.length ≤ 1000000 then
          (if (t.stack.length : Int) - f.base - p.nslots < (effX ins.1 ins.2).1 then some .trap else if 128 < (t.stack.length : Int) - f.base - p.nslots + (effX ins.1 ins.2).2 then some .trap else some (.go (t.frames.length - 1) p ins.1 ins.2)) else none)
        else some .trap) else none) else none
    else none
  else none
def VF.play (th : Nat) (m : VM) : VF → Option (Out Ev)
  | .trap => some (.trp 11 m)
  | .go i p op x => stepE th i p op x m
theorem b1b1 {α β γ : Type} (x : Option α) (f : α → Option β) (g : β → Option γ) : bind1 (bind1 x f) g = bind1 x fun a => bind1 (f a) g := by cases x <;> rfl
theorem b1ite {β γ : Type} {c : Prop} [Decidable c] {a b : Option β} {g : β → Option γ} : bind1 (if c then a else b) g = if c then bind1 a g else bind1 b g := by split <;> rfl
theorem vstep_fetch (th : Nat) (m : VM) : vstepL th m = bind1 (vfetch th m) (VF.play th m) := by
  unfold vstepL vfetch stepS
  simp only [b1b1, b1ite]
  rfl
end Go.Wl
