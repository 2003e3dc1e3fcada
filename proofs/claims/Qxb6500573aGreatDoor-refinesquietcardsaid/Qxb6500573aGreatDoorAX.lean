/- Plain: package vm, plain instructions, builtins, calls. -/
import Derived.Test.Qxb6500573aGreatDoorWVmJ
namespace Go.Wl
open Go Go.Sl Go.Proofs
set_option linter.unusedVariables false
def constM (p : Pr) (x : Int) (m : VM) : Option V := if (0 ≤ p.k ∧ p.k ≤ 1000000) ∧ 0 ≤ x ∧ x ≤ 1000000 then getI m.pg.consts (p.k + x) else none
def tget (h : Int) (k : V) (m : VM) : Option V := if 0 ≤ h ∧ h < m.vs.tabs.length ∧ m.vs.tabs.length ≤ 1000 ∧ 0 ≤ k.n then bind2 (getM m.vs.tabs h k) fun v e => some v else none
def slotI (f : Fr) (x : Int) : Nat := (f.base + x).toNat
def pGetL (th : Nat) (f : Fr) (x : Int) (m : VM) : Option (Out Unit) := bind1 (getS m th (slotI f x : Nat)) fun v => okU () (pushM th [v] m)
def pSetL (th : Nat) (f : Fr) (x : Int) (m : VM) : Option (Out Unit) := bind2 (popM th m) fun v m => okU () (setS th (slotI f x) v m)
def pGetU (th i : Nat) (x : Int) (m : VM) : Option (Out Unit) := bind1 (getUpM th i x m) fun v => okU () (pushM th [v] m)
def pSetU (th i : Nat) (x : Int) (m : VM) : Option (Out Unit) := bind2 (popM th m) fun v m => okU () (setUpM th i x v m)
def pGetG (th : Nat) (p : Pr) (x : Int) (m : VM) : Option (Out Unit) := bind1 (constM p x m) fun k => bind1 (tget 0 k m) fun v => okU () (pushM th [v] m)
def pSetG (th : Nat) (p : Pr) (x : Int) (m : VM) : Option (Out Unit) := bind2 (popM th m) fun v m => bind1 (constM p x m) fun k => storeM 0 k v m
def pGetT (th : Nat) (m : VM) : Option (Out Unit) := bind2 (popM th m) fun k m => bind2 (popM th m) fun a m => bindO (some (tabOfM a s_index m)) fun h m => bind1 (tget h k m) fun v => okU () (pushM th [v] m)
def pSetT (th : Nat) (m : VM) : Option (Out Unit) := bind2 (popM th m) fun v m => bind2 (popM th m) fun k m => bind2 (popM th m) fun a m => bindO (some (tabOfM a s_index m)) fun h m => storeM h k v m
def pSetI (th : Nat) (x : Int) (m : VM) : Option (Out Unit) := bind2 (popM th m) fun v m => bind1 (getT m th) fun t => if t.stack.length ≤ 1000000 then bind1 t.stack[t.stack.length - 1]? fun a => bindO (some (tabOfM a s_index m)) fun h m => storeM h (numI x) v m else none
def pNewT (th : Nat) (m : VM) : Option (Out Unit) := if 12 ≤ m.vs.tabs.length then some (.trp 8 m) else okU () (pushM th [⟨4, (m.vs.tabs.length : Int), []⟩] { m with vs := { m.vs with tabs := m.vs.tabs ++ [Tb.empty] } })
def pClo (th i : Nat) (x : Int) (m : VM) : Option (Out Unit) := bindO (closureM th i x m) fun c m => if 0 ≤ c ∧ c ≤ 1000000000 then okU () (pushM th [⟨5, c, []⟩] m) else none
def plainM (th i : Nat) (p : Pr) (op x : Int) (m : VM) : Option (Out Unit) := bind1 (getF m th i) fun f => bind1 (getT m th) fun t =>
  if ((0 ≤ f.base ∧ f.base ≤ 400000) ∧ (0 ≤ p.nslots ∧ p.nslots ≤ 1000000) ∧ f.base + p.nslots ≤ t.stack.length) ∧ 0 ≤ x ∧ x ≤ 400000 then
    if op = 1 then bind1 (constM p x m) fun v => okU () (pushM th [v] m) else
    if op = 2 then okU () (pushM th [V.nil] m) else
    if op = 3 then okU () (pushM th [⟨1, 1, []⟩] m) else
    if op = 4 then okU () (pushM th [⟨1, 0, []⟩] m) else
    if op = 5 then (if x < p.nslots then pGetL th f x m else none) else
    if op = 6 then (if x < p.nslots then pSetL th f x m else none) else
    if op = 7 then pGetU th i x m else
    if op = 8 then pSetU th i x m else
    if op = 9 then pGetG th p x m else
    if op = 10 then pSetG th p x m else
    if op = 11 then pGetT th m else
    if op = 12 then pSetT th m else
    if op = 13 then pSetI th x m else
    if op = 14 then pNewT th m else
    if op = 25 then bind2 (popM th m) fun _ m => some (.ok () m) else
    if op = 28 then pClo th i x m else
    if op = 29 then okU () (closeM th (f.base + x) m) else
    if op = 30 then (if x + 4 ≤ p.nslots then forV th (slotI f x) op m else none) else
    if op = 31 then (if x + 4 ≤ p.nslots then forV th (slotI f x) op m else none) else
    if op = 32 then (if x + 4 ≤ p.nslots then forV th (slotI f x) op m else none) else
    operM th op x m
  else none
theorem constM_at {p : Pr} {x : Int} {m : VM} {v : V} (h : constM p x m = some v) : ((0 ≤ p.k ∧ p.k ≤ 1000000) ∧ 0 ≤ x ∧ x ≤ 1000000) ∧ getI m.pg.consts (p.k + x) = some v := by
  unfold constM at h
  split at h
  · rename_i hb; exact ⟨hb, h⟩
  · cases h
theorem tget_some {h : Int} {k v : V} {m : VM} (hh : tget h k m = some v) : ∃ j : Nat, h = j ∧ (j < m.vs.tabs.length ∧ m.vs.tabs.length ≤ 1000) ∧ 0 ≤ k.n ∧ ∃ e, getM m.vs.tabs j k = some (v, e) := by
  unfold tget at hh
  split at hh
  · rename_i hb
    obtain ⟨v', e, hg, hh⟩ := bnd2 hh
    injection hh with hh
    subst hh
    refine ⟨h.toNat, by omega, by omega, hb.2.2.2, e, ?_⟩
    rw [show ((h.toNat : Nat) : Int) = h from by omega]; exact hg
  · cases hh
theorem popM_pg {th : Nat} {v : V} {m m' : VM} (h : popM th m = some (v, m')) : m'.pg = m.pg := by
  unfold popM getT at h
  obtain ⟨t, _, h⟩ := bnd1 h
  split at h
  · obtain ⟨y, _, h⟩ := bnd1 h
    injection h with h; injection h with h1 h2; rw [← h2]; rfl
  · cases h
theorem getS_at {m : VM} {th : Nat} {i : Int} {t : Th} {v : V} (ht : m.vs.threads[th]? = some t) (h : getS m th i = some v) : getI t.stack i = some v := by
  unfold getS getT at h
  rw [ht] at h
  exact h
theorem setS_at {m m' : VM} {th i : Nat} {v : V} (h : setS th i v m = some m') : ∃ t, m.vs.threads[th]? = some t ∧ i < t.stack.length ∧ m' = setTh m th { t with stack := t.stack.set i v } := by
  unfold setS getT at h
  obtain ⟨t, ht, h⟩ := bnd1 h
  have hi : i < t.stack.length := Decidable.byContradiction fun q => by rw [if_neg q] at h; cases h
  rw [if_pos hi] at h
  exact ⟨t, ht, hi, (Option.some.inj h).symm⟩
theorem getI_lt {α : Type} {l : List α} {i : Int} (h : 0 ≤ i ∧ i < 1000000000) (h2 : i < l.length) : ∃ v, getI l i = some v := by
  unfold getI
  rw [if_pos h]
  exact ⟨_, List.getElem?_eq_getElem (by omega)⟩
theorem getI_last {α : Type} {l : List α} {y : α} (hy : l[l.length - 1]? = some y) (hl : l.length ≤ 1000000) : getI l ((l.length : Int) - 1) = some y := by
  have hn := (List.getElem?_eq_some_iff.1 hy).1
  unfold getI
  rw [if_pos (by omega), show ((l.length : Int) - 1).toNat = l.length - 1 from by omega, hy]
end Go.Wl
