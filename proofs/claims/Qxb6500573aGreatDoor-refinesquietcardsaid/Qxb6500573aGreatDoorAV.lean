/- Plain: package vm, its functions. -/
import Derived.Test.Qxb6500573aGreatDoorAK2
import Derived.Test.Qxb6500573aGreatDoorWJoin
import Derived.Test.Qxb6500573aGreatDoorWNumE
namespace Go.Wl
open Go Go.Sl Go.Proofs
set_option linter.unusedVariables false
/-- How a call ends: it returns; it throws an error value; it ends the machine. -/
inductive Out (α : Type) where
  | ok (a : α) (m : VM)
  | thr (v : V) (m : VM)
  | trp (e : Int) (m : VM)
def bindO {α β : Type} (x : Option (Out α)) (k : α → VM → Option (Out β)) : Option (Out β) := match x with
  | none => none
  | some (.ok a m) => k a m
  | some (.thr v m) => some (.thr v m)
  | some (.trp e m) => some (.trp e m)
def strV (s : List UInt8) : V := ⟨3, 0, s⟩
def getT (m : VM) (th : Nat) : Option Th := m.vs.threads[th]?
def pushM (th : Nat) (l : List V) (m : VM) : Option VM := bind1 (getT m th) fun t => if t.stack.length + l.length ≤ 1000000 then some (setTh m th { t with stack := t.stack ++ l }) else none
def popM (th : Nat) (m : VM) : Option (V × VM) := bind1 (getT m th) fun t => if t.stack.length ≤ 1000000 then bind1 t.stack[t.stack.length - 1]? fun v => some (v, setTh m th { t with stack := t.stack.take (t.stack.length - 1) }) else none
def burnM (m : VM) : Option (Out Unit) := if m.vs.fuel = 0 then some (.trp 9 m) else if 0 ≤ m.vs.fuel ∧ m.vs.fuel ≤ 9223372036854775807 then some (.ok () { m with vs := { m.vs with fuel := m.vs.fuel - 1 } }) else none
def getF (m : VM) (th i : Nat) : Option Fr := bind1 (getT m th) fun t => t.frames[i]?
def setF (th i : Nat) (f : Fr) (m : VM) : Option VM := bind1 (getT m th) fun t => if i < t.frames.length then some (setTh m th { t with frames := t.frames.set i f }) else none
def pcM (th i : Nat) (pc : Int) (m : VM) : Option VM := bind1 (getF m th i) fun f => setF th i { f with pc := pc } m
def jumpV (th i : Nat) (x : Int) (m : VM) : Option (Out Unit) := bind1 (getF m th i) fun f =>
  if x ≤ f.pc then bindO (burnM m) fun _ m => bind1 (pcM th i x m) fun m => some (.ok () m) else bind1 (pcM th i x m) fun m => some (.ok () m)
def nextPc (th i : Nat) (m : VM) : Option VM := bind1 (getF m th i) fun f => if 0 ≤ f.pc ∧ f.pc ≤ 1000000000 then pcM th i (f.pc + 1) m else none
def numOfM (v : V) (msg : List UInt8) (m : VM) : Out Int := if v.t ≠ 2 then .thr (strV msg) m else .ok v.n m
def tabOfM (v : V) (msg : List UInt8) (m : VM) : Out Int := if v.t ≠ 4 then .thr (strV msg) m else .ok (IntKind.i64.wrap v.n) m
/-- closeFrom over the open list. -/
def closeL (at_ : Int) (stack : List V) : Nat → List Int → List Ce → Option (List Int × List Ce)
  | 0, o, c => some (o, c)
  | n + 1, o, c => bind1 o[n]? fun j => bind1 (getI c j) fun e => if e.at_ < at_ then some (o, c) else bind1 (getI stack e.at_) fun v => closeL at_ stack n (o.take n) (c.set j.toNat ⟨-1, 0, v⟩)
def padA (args : List V) (n : Nat) : List V := args ++ List.replicate (n - args.length) V.nil
/-- The new frame's slots. -/
def slotsL (args : List V) (np ns : Nat) : List V := (List.range ns).map fun i => if i < np then args.getD i V.nil else V.nil
def enterM (th : Nat) (c : Int) (args : List V) (ret : Int) (prot : Bool) (m : VM) : Option VM := bind1 (getI m.vs.clos c) fun cl => bind1 (getI m.pg.protos cl.p) fun p => bind1 (getT m th) fun t =>
  if (0 ≤ p.nparams ∧ p.nparams ≤ 1000) ∧ (0 ≤ p.nslots ∧ p.nslots ≤ 1000) ∧ t.stack.length + 2000 ≤ 1000000 ∧ t.frames.length < 1000000 then
    some (setTh m th { t with stack := t.stack ++ slotsL args p.nparams.toNat p.nslots.toNat, frames := t.frames ++ [⟨c, 0, t.stack.length, ret, prot⟩] }) else none
def closeM (th : Nat) (at_ : Int) (m : VM) : Option VM := bind1 (getT m th) fun t => if t.opn.length ≤ 1000000 then bind2 (closeL at_ t.stack t.opn.length t.opn m.vs.cells) fun o c => some (setTh { m with vs := { m.vs with cells := c } } th { t with opn := o }) else none
def killM (th : Nat) (m : VM) : Option VM := bind1 (closeM th 0 m) fun m => bind1 (getT m th) fun t => some (setTh m th { t with st := 5, stack := [], frames := [] })
def cellOf (th i : Nat) (x : Int) (m : VM) : Option (Int × Ce) := bind1 (getF m th i) fun f => bind1 (getI m.vs.clos f.clo) fun c => bind1 (getI m.vs.upix (c.up + x)) fun j => if (0 ≤ c.up ∧ c.up ≤ 1000000000) ∧ 0 ≤ x ∧ x ≤ 1000000000 then bind1 (getI m.vs.cells j) fun e => some (j, e) else none
def getUpM (th i : Nat) (x : Int) (m : VM) : Option V := bind2 (cellOf th i x m) fun j e => if 0 ≤ e.th then bind1 (getI m.vs.threads e.th) fun t => getI t.stack e.at_ else some e.v
def setUpM (th i : Nat) (x : Int) (v : V) (m : VM) : Option VM := bind2 (cellOf th i x m) fun j e =>
  if 0 ≤ e.th then bind1 (getI m.vs.threads e.th) fun t => bind1 (getI t.stack e.at_) fun _ => some (setTh m e.th.toNat { t with stack := t.stack.set e.at_.toNat v })
  else some { m with vs := { m.vs with cells := m.vs.cells.set j.toNat { e with v := v } } }
def capI (cells : List Ce) (o : List Int) (at_ : Int) : Nat → Option Nat
  | 0 => some 0
  | n + 1 => bind1 o[n]? fun j => bind1 (getI cells j) fun e => if at_ < e.at_ then capI cells o at_ n else some (n + 1)
def capNew (th : Nat) (at_ : Int) (i : Nat) (t : Th) (m : VM) : Option (Int × VM) := if m.vs.cells.length < 1000000 then
  some ((m.vs.cells.length : Int), setTh { m with vs := { m.vs with cells := m.vs.cells ++ [⟨th, at_, V.nil⟩] } } th { t with opn := t.opn.take i ++ [(m.vs.cells.length : Int)] ++ t.opn.drop i }) else none
def captureM (th : Nat) (at_ : Int) (m : VM) : Option (Int × VM) := bind1 (getT m th) fun t => if t.opn.length < 1000000 then bind1 (capI m.vs.cells t.opn at_ t.opn.length) fun i => match i with
    | 0 => capNew th at_ 0 t m
    | n + 1 => bind1 t.opn[n]? fun j => bind1 (getI m.vs.cells j) fun e => if e.at_ = at_ then some (j, m) else capNew th at_ (n + 1) t m
  else none
/-- The new closure's upvalues. -/
def upsM (th i : Nat) : List (Int × Int) → VM → Option VM
  | [], m => some m
  | d :: l, m => bind1 (getF m th i) fun f => if d.1 = 1 then
      (if (0 ≤ f.base ∧ f.base ≤ 1000000000) ∧ 0 ≤ d.2 ∧ d.2 ≤ 255 then bind2 (captureM th (f.base + d.2) m) fun c m => if m.vs.upix.length < 1000000 then upsM th i l { m with vs := { m.vs with upix := m.vs.upix ++ [c] } } else none else none)
    else bind1 (getI m.vs.clos f.clo) fun c => if (0 ≤ c.up ∧ c.up ≤ 1000000000) ∧ 0 ≤ d.2 ∧ d.2 ≤ 255 then bind1 (getI m.vs.upix (c.up + d.2)) fun u => if m.vs.upix.length < 1000000 then upsM th i l { m with vs := { m.vs with upix := m.vs.upix ++ [u] } } else none else none
def window {α : Type} (l : List α) (a n : Int) : Option (List α) := if (0 ≤ a ∧ a ≤ 500000000) ∧ (0 ≤ n ∧ n ≤ 400000000) ∧ a + n ≤ l.length then some ((l.drop a.toNat).take n.toNat) else none
def closureM (th i : Nat) (x : Int) (m : VM) : Option (Out Int) := if 24 ≤ m.vs.clos.length then some (.trp 8 m) else bind1 (getI m.pg.protos x) fun q => bind1 (window m.pg.descs q.up q.nup) fun ds =>
  bind1 (upsM th i ds m) fun m' => if m'.vs.clos.length < 1000000 then some (.ok (m'.vs.clos.length : Int) { m' with vs := { m'.vs with clos := m'.vs.clos ++ [⟨x, m.vs.upix.length, q.nup⟩] } }) else none
def storeM (h : Int) (k v : V) (m : VM) : Option (Out Unit) := if 0 ≤ h ∧ h < m.vs.tabs.length ∧ m.vs.tabs.length ≤ 1000 ∧ 0 ≤ k.n then bind2 (setM m.vs.tabs h k v) fun ts e =>
    (if e = 8 then some (.trp 8 { m with vs := { m.vs with tabs := ts } }) else if e ≠ 0 then some (.thr (strV [107, 101, 121]) { m with vs := { m.vs with tabs := ts } }) else some (.ok () { m with vs := { m.vs with tabs := ts } }))
  else none
def numR (v : V) : Bool := decide (0 ≤ v.n ∧ v.n < 18446744073709551616)
def joinM : List (List UInt8) → List UInt8 := fun l => l.flatten
/-- The text of a table, function, builtin, thread. -/
def refText (v : V) : List UInt8 := if v.t = 6 then [98, 117, 105, 108, 116, 105, 110] ++ [58] ++ builtinName (IntKind.i64.wrap v.n) else typeName v.t ++ [58] ++ utoa v.n.toNat
def textM (v : V) : Option (List UInt8) := if v.t = 0 then some [110, 105, 108] else if v.t = 1 then (if v.n ≠ 0 then some [116, 114, 117, 101] else some [102, 97, 108, 115, 101])
  else if v.t = 2 then (if numR v = true then formatM v.n.toNat else none) else if v.t = 3 then some v.s
  else if numR v = true then some (refText v) else none
def compareM (op : Int) (a c : V) (m : VM) : Option (Out Bool) := if a.t = 2 ∧ c.t = 2 then (if numR a = true ∧ numR c = true then some (.ok (cmpM op a.n.toNat c.n.toNat) m) else none)
  else if op = 1 then some (.ok (decide (a = c)) m) else if op = 2 then some (.ok (decide (a ≠ c)) m)
  else if a.t ≠ 3 ∨ c.t ≠ 3 then some (.thr (strV [99, 111, 109, 112, 97, 114, 101]) m)
  else if op = 3 then some (.ok (Op.bytesLess a.s c.s) m) else if op = 4 then some (.ok (Op.bytesLess a.s c.s || (a.s == c.s)) m) else if op = 5 then some (.ok (!(Op.bytesLess a.s c.s || (a.s == c.s))) m) else some (.ok (!Op.bytesLess a.s c.s) m)
/-- sound's walk over a new closure's descriptors. -/
def descsOk (nslots nup : Int) : List (Int × Int) → Bool
  | [] => true
  | d :: l => if d.1 = 1 ∧ nslots ≤ d.2 then false else if d.1 = 0 ∧ nup ≤ d.2 then false else descsOk nslots nup l
def sndG (p : Pr) (x : Int) (m : VM) : Option Bool := if x < p.nk then (if (0 ≤ p.k ∧ p.k ≤ 1000000) ∧ (0 ≤ x ∧ x ≤ 1000000) then bind1 (getI m.pg.consts (p.k + x)) fun v => some (decide (v.t = 3)) else none) else some false
def sndT (th : Nat) (f : Fr) (p : Pr) (x : Int) (m : VM) : Option Bool := if p.nslots ≤ x + 3 then some false else bind1 (getT m th) fun t => if (0 ≤ f.base ∧ f.base ≤ 1000000) ∧ (0 ≤ x ∧ x ≤ 1000000) ∧ f.base + x + 3 ≤ t.stack.length then
      bind1 (getI t.stack (f.base + x)) fun v0 => if v0.t = 2 then bind1 (getI t.stack (f.base + x + 1)) fun v1 => (if v1.t = 2 then bind1 (getI t.stack (f.base + x + 2)) fun v2 => some (decide (v2.t = 2)) else some false) else some false else none
def sndC (p : Pr) (c : Cl) (x : Int) (m : VM) : Option Bool := if m.pg.protos.length ≤ x then some false else bind1 (getI m.pg.protos x) fun q => bind1 (window m.pg.descs q.up q.nup) fun ds => if ds.all (fun d => decide (0 ≤ d.2 ∧ d.2 ≤ 255)) = true then some (descsOk p.nslots c.nup ds) else none
def soundM (th i : Nat) (p : Pr) (op x : Int) (m : VM) : Option Bool := bind1 (getF m th i) fun f => bind1 (getI m.vs.clos f.clo) fun c => if 0 ≤ x ∧ x ≤ 1000000 then
  if op = 1 then some (decide (x < p.nk)) else
  if op = 9 then sndG p x m else
  if op = 10 then sndG p x m else
  if op = 5 then some (decide (x < p.nslots)) else
  if op = 6 then some (decide (x < p.nslots)) else
  if op = 7 then some (decide (x < c.nup)) else
  if op = 8 then some (decide (x < c.nup)) else
  if op = 15 then some (if 1 ≤ x then decide (x ≤ 6) else false) else
  if op = 16 then some (if 1 ≤ x then decide (x ≤ 6) else false) else
  if op = 21 then some (decide (x < p.ncode)) else
  if op = 22 then some (decide (x < p.ncode)) else
  if op = 23 then some (decide (x < p.ncode)) else
  if op = 24 then some (decide (x < p.ncode)) else
  if op = 26 then some (decide (x ≤ 3)) else
  if op = 29 then some (decide (x ≤ p.nslots)) else
  if op = 30 then some (decide (x + 3 < p.nslots)) else
  if op = 32 then some (decide (x + 3 < p.nslots)) else
  if op = 31 then sndT th f p x m else
  if op = 28 then sndC p c x m else
  some (if 1 ≤ op then decide (op ≤ 32) else false)
  else none
def effectM (op : Int) : Int × Int :=
  if op = 1 then (0, 1) else
  if op = 2 then (0, 1) else
  if op = 3 then (0, 1) else
  if op = 4 then (0, 1) else
  if op = 5 then (0, 1) else
  if op = 7 then (0, 1) else
  if op = 9 then (0, 1) else
  if op = 14 then (0, 1) else
  if op = 28 then (0, 1) else
  if op = 31 then (0, 1) else
  if op = 32 then (0, 1) else
  if op = 6 then (1, -1) else
  if op = 8 then (1, -1) else
  if op = 10 then (1, -1) else
  if op = 22 then (1, -1) else
  if op = 25 then (1, -1) else
  if op = 23 then (1, 0) else
  if op = 24 then (1, 0) else
  if op = 18 then (1, 0) else
  if op = 19 then (1, 0) else
  if op = 20 then (1, 0) else
  if op = 11 then (2, -1) else
  if op = 15 then (2, -1) else
  if op = 16 then (2, -1) else
  if op = 17 then (2, -1) else
  if op = 13 then (2, -1) else
  if op = 27 then (2, -2) else
  if op = 12 then (3, -3) else
  (0, 0)
def okU {α : Type} (a : α) (x : Option VM) : Option (Out α) := bind1 x fun m => some (.ok a m)
def getS (m : VM) (th : Nat) (i : Int) : Option V := bind1 (getT m th) fun t => getI t.stack i
def setS (th : Nat) (i : Nat) (v : V) (m : VM) : Option VM := bind1 (getT m th) fun t => if i < t.stack.length then some (setTh m th { t with stack := t.stack.set i v }) else none
def s_for : List UInt8 := [102, 111, 114]
def s_next : List UInt8 := [110, 101, 120, 116]
def s_arith : List UInt8 := [97, 114, 105, 116, 104]
def s_concat : List UInt8 := [99, 111, 110, 99, 97, 116]
def s_long : List UInt8 := [108, 111, 110, 103]
def s_len : List UInt8 := [108, 101, 110]
def s_index : List UInt8 := [105, 110, 100, 101, 120]
def s_call : List UInt8 := [99, 97, 108, 108]
def s_depth : List UInt8 := [100, 101, 112, 116, 104]
def s_co : List UInt8 := [99, 111]
def s_yield : List UInt8 := [121, 105, 101, 108, 100]
def fChk (th a : Nat) (m : VM) : Option (Out Unit) := bind1 (getS m th a) fun v0 => if v0.t ≠ 2 then some (.thr (strV s_for) m) else bind1 (getS m th (a + 1 : Nat)) fun v1 => if v1.t ≠ 2 then some (.thr (strV s_for) m) else bind1 (getS m th (a + 2 : Nat)) fun v2 => if v2.t ≠ 2 then some (.thr (strV s_for) m) else
  if numR v2 = true then (bif cmpM 1 v2.n.toNat 0 then some (.thr (strV s_for) m) else bif cmpM 2 v2.n.toNat v2.n.toNat then some (.thr (strV s_for) m) else some (.ok () m)) else none
def fTest (th a : Nat) (m : VM) : Option (Out Unit) := bind1 (getS m th a) fun v0 => bind1 (getS m th (a + 1 : Nat)) fun v1 => bind1 (getS m th (a + 2 : Nat)) fun v2 => if numR v0 = true ∧ numR v1 = true ∧ numR v2 = true then
  okU () (pushM th [boolV (cmpM (bif cmpM 5 v2.n.toNat 0 then 4 else 6) v0.n.toNat v1.n.toNat)] m) else none
def fNext (th a : Nat) (m : VM) : Option (Out Unit) := bind1 (getS m th a) fun v0 => bindO (some (tabOfM v0 s_for m)) fun h m => bind1 (getS m th (a + 1 : Nat)) fun v1 => if 0 ≤ h ∧ h < m.vs.tabs.length ∧ m.vs.tabs.length ≤ 1000 ∧ 0 ≤ v1.n then
  bind1 (nextM m.vs.tabs h v1) fun r => if r.2.2 ≠ 0 then some (.thr (strV s_next) m) else bind1 (setS th (a + 1) r.1 m) fun m => bind1 (setS th (a + 2) r.1 m) fun m => bind1 (setS th (a + 3) r.2.1 m) fun m => okU () (pushM th [boolV (decide (r.1.t ≠ 0))] m) else none
def forV (th a : Nat) (op : Int) (m : VM) : Option (Out Unit) := if op = 30 then fChk th a m else if op = 31 then fTest th a m else if op = 32 then fNext th a m else some (.ok () m)
def opArith (th : Nat) (x : Int) (w : V) (m : VM) : Option (Out Unit) := bind2 (popM th m) fun v m => bindO (some (numOfM v s_arith m)) fun an m => bindO (some (numOfM w s_arith m)) fun bn m => if (0 ≤ an ∧ an < 18446744073709551616) ∧ 0 ≤ bn ∧ bn < 18446744073709551616 then okU () (pushM th [⟨2, (arithT x an.toNat bn.toNat : Nat), []⟩] m) else none
def opCmp (th : Nat) (x : Int) (w : V) (m : VM) : Option (Out Unit) := bind2 (popM th m) fun v m => bindO (compareM x v w m) fun c m => okU () (pushM th [boolV c] m)
def opCat (th : Nat) (w : V) (m : VM) : Option (Out Unit) := bind2 (popM th m) fun v m => if v.t ≠ 3 ∧ v.t ≠ 2 then some (.thr (strV s_concat) m) else if w.t ≠ 3 ∧ w.t ≠ 2 then some (.thr (strV s_concat) m) else
  bind1 (textM v) fun l => bind1 (textM w) fun r => if l.length ≤ 1000000 ∧ r.length ≤ 1000000 then (if 40 < (l.length : Int) + r.length then some (.thr (strV s_long) m) else okU () (pushM th [strV (l ++ r)] m)) else none
def opNeg (th : Nat) (w : V) (m : VM) : Option (Out Unit) := bindO (some (numOfM w s_arith m)) fun bn m => if 0 ≤ bn ∧ bn < 18446744073709551616 then okU () (pushM th [⟨2, (negM bn.toNat : Nat), []⟩] m) else none
def numI (i : Int) : V := ⟨2, (FloatKind.f64.nearest i : Nat), []⟩
def opLen (th : Nat) (w : V) (m : VM) : Option (Out Unit) := if w.t ≠ 3 then bindO (some (tabOfM w s_len m)) fun h m => (if 0 ≤ h ∧ h < m.vs.tabs.length ∧ m.vs.tabs.length ≤ 1000 then bind2 (lenM m.vs.tabs h) fun l e => okU () (pushM th [numI l] m) else none) else okU () (pushM th [numI w.s.length] m)
def operM (th : Nat) (op x : Int) (m : VM) : Option (Out Unit) := bind2 (popM th m) fun w m => if op = 15 then opArith th x w m else if op = 16 then opCmp th x w m else if op = 17 then opCat th w m else if op = 18 then okU () (pushM th [boolV (!truthy w)] m) else if op = 19 then opNeg th w m else if op = 20 then opLen th w m else okU () (pushM th [V.nil] m)
end Go.Wl
