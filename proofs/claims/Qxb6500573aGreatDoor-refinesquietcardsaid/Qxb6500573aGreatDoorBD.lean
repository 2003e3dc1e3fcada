/- Plain: package vm, a run of a thread. -/
import Derived.Test.Qxb6500573aGreatDoorBC
namespace Go.Wl
open Go Go.Sl Go.Proofs
set_option linter.unusedVariables false
def runV (th : Nat) (o : Out Ev) : Option (Ev × Bool × VM) := match o with
  | .ok e m => some (e, true, m)
  | .thr v m => unwindM th v m
  | .trp e m => some (⟨5, 0, e, V.nil, V.nil⟩, true, wipeM e m)
def ev6 : Ev := ⟨6, 0, 0, V.nil, V.nil⟩
def execL (th n : Nat) : Nat → VM → Option (Ev × VM)
  | 0, _ => none
  | k + 1, m => bind1 (loopM th n m) fun o => bind1 (runV th o) fun r => if r.2.1 = true then some (r.1, r.2.2) else execL th n k r.2.2
def execS (th n k : Nat) (m : VM) : Option (Ev × VM) := bind1 (getT m th) fun t => execL th n k (setTh m th { t with st := 4 })
def execM (th : Nat) (a c : V) (n k : Nat) (m : VM) : Option (Ev × VM) := if m.ended ≠ 0 then some (ev6, m) else if (m.vs.threads.length : Int) ≤ th then some (ev6, m) else
  bind1 (validM a m) fun r => bind1 (validM c m) fun s => if r = true then (if s = true then bind1 (getT m th) fun t => (if t.st = 1 then bind1 (enterM th t.fn [a] 0 false m) fun m => execS th n k m else
    if t.st = 2 then bind1 (pushM th [a, c] m) fun m => execS th n k m else if t.st = 3 then bind1 (pushM th [a, c] m) fun m => execS th n k m else some (ev6, m)) else some (ev6, m)) else some (ev6, m)
end Go.Wl
