/- Plain: what holds of the machine: types of the code, frames, threads. -/
import Derived.Test.Qxb6500573aGreatDoorTA
import Derived.Test.Qxb6500573aGreatDoorBFd
namespace Go.Wl
open Go Go.Sl Go.Proofs
set_option linter.unusedVariables false
/-- What is known at a place of the code: of each operand whether it is surely a number; of each slot that is alive: 0 a variable, 1 hidden, 2 hidden and a number. -/
structure Ty where
  st : List Bool
  z : List Nat
def stle (a b : List Bool) : Prop := a.length = b.length ∧ ∀ j : Nat, b[j]? = some true → a[j]? = some true
def zle (a b : List Nat) : Prop := (∀ s : Nat, a[s]? = some 0 → b[s]? = some 0) ∧ ∀ s : Nat, b[s]? = some 2 → a[s]? = some 2
def Ty.le (a b : Ty) : Prop := stle a.st b.st ∧ zle a.z b.z
theorem stle.refl (a : List Bool) : stle a a := ⟨rfl, fun _ h => h⟩
theorem zle.refl (a : List Nat) : zle a a := ⟨fun _ h => h, fun _ h => h⟩
theorem Ty.le_refl (a : Ty) : a.le a := ⟨stle.refl _, zle.refl _⟩
theorem stle.trans {a b c : List Bool} (h1 : stle a b) (h2 : stle b c) : stle a c := ⟨h1.1.trans h2.1, fun j h => h1.2 j (h2.2 j h)⟩
theorem zle.trans {a b c : List Nat} (h1 : zle a b) (h2 : zle b c) : zle a c := ⟨fun s h => h2.1 s (h1.1 s h), fun s h => h1.2 s (h2.2 s h)⟩
theorem Ty.le_trans {a b c : Ty} (h1 : a.le b) (h2 : b.le c) : a.le c := ⟨h1.1.trans h2.1, h1.2.trans h2.2⟩
/-- On goes the code at the next place. -/
def fall (p : Pr) (T : Nat → Ty) (pc : Nat) (a : Ty) : Prop := (pc : Int) + 1 < p.ncode ∧ a.le (T (pc + 1))
def jmpT (p : Pr) (T : Nat → Ty) (x : Int) (a : Ty) : Prop := (0 ≤ x ∧ x < p.ncode) ∧ a.le (T x.toNat)
/-- The slots that a new closure takes are variables; the upvalues are there. -/
def descOk (p : Pr) (z : List Nat) (d : Int × Int) : Prop := (d.1 = 1 ∧ 0 ≤ d.2 ∧ z[d.2.toNat]? = some 0) ∨ (d.1 = 0 ∧ 0 ≤ d.2 ∧ d.2 < p.nup)
inductive InsOk (g : Pg) (p : Pr) (T : Nat → Ty) (pc : Nat) : Int → Int → Prop
  | kon {x : Int} {st : List Bool} {z : List Nat} (ht : T pc = ⟨st, z⟩) (hx : 0 ≤ x ∧ x < p.nk) (hn : fall p T pc ⟨st ++ [false], z⟩) : InsOk g p T pc 1 x
  | lit {op x : Int} {st : List Bool} {z : List Nat} (ho : op = 2 ∨ op = 3 ∨ op = 4) (ht : T pc = ⟨st, z⟩) (hn : fall p T pc ⟨st ++ [false], z⟩) : InsOk g p T pc op x
  | getL {x : Int} {st : List Bool} {z : List Nat} {b : Bool} (ht : T pc = ⟨st, z⟩) (hx : 0 ≤ x ∧ x < p.nslots) (hb : b = true → z[x.toNat]? = some 2) (hn : fall p T pc ⟨st ++ [b], z⟩) : InsOk g p T pc 5 x
  | setL {x : Int} {st : List Bool} {z : List Nat} {b : Bool} (ht : T pc = ⟨st ++ [b], z⟩) (hx : 0 ≤ x ∧ x < p.nslots) (hb : z[x.toNat]? = some 2 → b = true) (hn : fall p T pc ⟨st, z⟩) : InsOk g p T pc 6 x
  | getU {x : Int} {st : List Bool} {z : List Nat} (ht : T pc = ⟨st, z⟩) (hx : 0 ≤ x ∧ x < p.nup) (hn : fall p T pc ⟨st ++ [false], z⟩) : InsOk g p T pc 7 x
  | setU {x : Int} {st : List Bool} {z : List Nat} {b : Bool} (ht : T pc = ⟨st ++ [b], z⟩) (hx : 0 ≤ x ∧ x < p.nup) (hn : fall p T pc ⟨st, z⟩) : InsOk g p T pc 8 x
  | getG {x : Int} {st : List Bool} {z : List Nat} {v : V} (ht : T pc = ⟨st, z⟩) (hx : 0 ≤ x ∧ x < p.nk) (hv : g.consts[(p.k + x).toNat]? = some v ∧ v.t = 3) (hn : fall p T pc ⟨st ++ [false], z⟩) : InsOk g p T pc 9 x
  | setG {x : Int} {st : List Bool} {z : List Nat} {b : Bool} {v : V} (ht : T pc = ⟨st ++ [b], z⟩) (hx : 0 ≤ x ∧ x < p.nk) (hv : g.consts[(p.k + x).toNat]? = some v ∧ v.t = 3) (hn : fall p T pc ⟨st, z⟩) : InsOk g p T pc 10 x
  | getT {x : Int} {st : List Bool} {z : List Nat} {a b : Bool} (ht : T pc = ⟨st ++ [a, b], z⟩) (hn : fall p T pc ⟨st ++ [false], z⟩) : InsOk g p T pc 11 x
  | setT {x : Int} {st : List Bool} {z : List Nat} {a b c : Bool} (ht : T pc = ⟨st ++ [a, b, c], z⟩) (hn : fall p T pc ⟨st, z⟩) : InsOk g p T pc 12 x
  | setI {x : Int} {st : List Bool} {z : List Nat} {a b : Bool} (ht : T pc = ⟨st ++ [a, b], z⟩) (hn : fall p T pc ⟨st ++ [a], z⟩) : InsOk g p T pc 13 x
  | newT {x : Int} {st : List Bool} {z : List Nat} (ht : T pc = ⟨st, z⟩) (hn : fall p T pc ⟨st ++ [false], z⟩) : InsOk g p T pc 14 x
  | arith {x : Int} {st : List Bool} {z : List Nat} {a b : Bool} (ht : T pc = ⟨st ++ [a, b], z⟩) (hx : 1 ≤ x ∧ x ≤ 6) (hn : fall p T pc ⟨st ++ [true], z⟩) : InsOk g p T pc 15 x
  | cmp {x : Int} {st : List Bool} {z : List Nat} {a b : Bool} (ht : T pc = ⟨st ++ [a, b], z⟩) (hx : 1 ≤ x ∧ x ≤ 6) (hn : fall p T pc ⟨st ++ [false], z⟩) : InsOk g p T pc 16 x
  | cat {x : Int} {st : List Bool} {z : List Nat} {a b : Bool} (ht : T pc = ⟨st ++ [a, b], z⟩) (hn : fall p T pc ⟨st ++ [false], z⟩) : InsOk g p T pc 17 x
  | una {op x : Int} {st : List Bool} {z : List Nat} {a : Bool} (ho : op = 18 ∨ op = 19 ∨ op = 20) (ht : T pc = ⟨st ++ [a], z⟩) (hn : fall p T pc ⟨st ++ [false], z⟩) : InsOk g p T pc op x
  | jmp {x : Int} (hj : jmpT p T x (T pc)) : InsOk g p T pc 21 x
  | jf {x : Int} {st : List Bool} {z : List Nat} {a : Bool} (ht : T pc = ⟨st ++ [a], z⟩) (hj : jmpT p T x ⟨st, z⟩) (hn : fall p T pc ⟨st, z⟩) : InsOk g p T pc 22 x
  | jk {op x : Int} {st : List Bool} {z : List Nat} {a : Bool} (ho : op = 23 ∨ op = 24) (ht : T pc = ⟨st ++ [a], z⟩) (hj : jmpT p T x (T pc)) (hn : fall p T pc ⟨st, z⟩) : InsOk g p T pc op x
  | pop {x : Int} {st : List Bool} {z : List Nat} {a : Bool} (ht : T pc = ⟨st ++ [a], z⟩) (hn : fall p T pc ⟨st, z⟩) : InsOk g p T pc 25 x
  | call {x : Int} {st l : List Bool} {z : List Nat} (ht : T pc = ⟨st ++ l, z⟩) (hx : 0 ≤ x ∧ x ≤ 3) (hl : (l.length : Int) = x + 1) (hn : fall p T pc ⟨st ++ [false, false], z⟩) : InsOk g p T pc 26 x
  | ret {x : Int} {st : List Bool} {z : List Nat} {a b : Bool} (ht : T pc = ⟨st ++ [a, b], z⟩) : InsOk g p T pc 27 x
  | clo {x : Int} {st : List Bool} {z : List Nat} {q : Pr} (ht : T pc = ⟨st, z⟩) (hx : 0 ≤ x ∧ x < g.protos.length) (hq : g.protos[x.toNat]? = some q) (hd : ∀ d, d ∈ (g.descs.drop q.up.toNat).take q.nup.toNat → descOk p z d) (hn : fall p T pc ⟨st ++ [false], z⟩) : InsOk g p T pc 28 x
  | close {x : Int} {st : List Bool} {z : List Nat} (ht : T pc = ⟨st, z⟩) (hx : 0 ≤ x ∧ x ≤ p.nslots) (hn : fall p T pc ⟨st, z.take x.toNat⟩) : InsOk g p T pc 29 x
  | forC {x : Int} {st : List Bool} {z z' : List Nat} (ht : T pc = ⟨st, z⟩) (hx : 0 ≤ x ∧ x + 3 < p.nslots) (h0 : ∀ s : Nat, z[s]? = some 0 → z'[s]? = some 0) (h2 : ∀ s : Nat, z'[s]? = some 2 → z[s]? = some 2 ∨ (x ≤ s ∧ (s : Int) ≤ x + 2)) (hz : z'.length ≤ p.nslots.toNat) (hn : fall p T pc ⟨st, z'⟩) : InsOk g p T pc 30 x
  | forT {x : Int} {st : List Bool} {z : List Nat} (ht : T pc = ⟨st, z⟩) (hx : 0 ≤ x ∧ x + 3 < p.nslots) (h0 : z[x.toNat]? = some 2) (h1 : z[x.toNat + 1]? = some 2) (h2 : z[x.toNat + 2]? = some 2) (hn : fall p T pc ⟨st ++ [false], z⟩) : InsOk g p T pc 31 x
  | forN {x : Int} {st : List Bool} {z : List Nat} (ht : T pc = ⟨st, z⟩) (hx : 0 ≤ x ∧ x + 3 < p.nslots) (h1 : z[x.toNat + 1]? ≠ some 2) (h2 : z[x.toNat + 2]? ≠ some 2) (h3 : z[x.toNat + 3]? ≠ some 2) (hn : fall p T pc ⟨st ++ [false], z⟩) : InsOk g p T pc 32 x
structure PrOk (g : Pg) (p : Pr) (T : Nat → Ty) : Prop where
  np : 0 ≤ p.nparams ∧ p.nparams ≤ p.nslots ∧ p.nslots ≤ 12
  up : (0 ≤ p.up ∧ 0 ≤ p.nup ∧ p.nup ≤ 255) ∧ p.up + p.nup ≤ g.descs.length
  ks : (0 ≤ p.k ∧ 0 ≤ p.nk) ∧ p.k + p.nk ≤ g.consts.length
  cd : (0 ≤ p.code ∧ 0 < p.ncode ∧ p.ncode ≤ 65535) ∧ p.code + p.ncode ≤ g.code.length
  ins : ∀ pc : Nat, (pc : Int) < p.ncode → ∃ i, g.code[p.code.toNat + pc]? = some i ∧ (0 ≤ i.2 ∧ i.2 ≤ 65535) ∧ InsOk g p T pc i.1 i.2
  t0 : (T 0).st = [] ∧ ∀ s : Nat, (T 0).z[s]? ≠ some 2
  st : ∀ pc : Nat, (pc : Int) < p.ncode → (T pc).st.length ≤ 128 ∧ (T pc).z.length ≤ p.nslots.toNat
structure PgOk (g : Pg) (PT : Nat → Nat → Ty) : Prop where
  n : 1 ≤ g.protos.length ∧ g.protos.length ≤ 13
  pr : ∀ (j : Nat) (p : Pr), g.protos[j]? = some p → PrOk g p (PT j)
  main : ∀ p, g.protos[0]? = some p → p.nup = 0
  ks : ∀ v, v ∈ g.consts → VV 0 0 0 v
  sz : g.consts.length ≤ 1000000 ∧ g.code.length ≤ 1000000 ∧ g.descs.length ≤ 1000000
  ds : ∀ d, d ∈ g.descs → (d.1 = 0 ∨ d.1 = 1) ∧ 0 ≤ d.2 ∧ d.2 ≤ 255
def NumS (stack : List V) (o : Nat) (z : List Nat) : Prop := ∀ s : Nat, z[s]? = some 2 → ∃ v, stack[o + s]? = some v ∧ v.t = 2
def NumO (stack : List V) (o : Nat) (st : List Bool) : Prop := ∀ j : Nat, st[j]? = some true → ∃ v, stack[o + j]? = some v ∧ v.t = 2
section
variable (g : Pg) (PT : Nat → Nat → Ty) (clos : List Cl)
/-- Where a frame's base lies over the one below it. -/
def RX (fs : List Fr) (ret : Int) (prot : Bool) (B : Nat) : Prop := (fs = [] → B = 0 ∧ ret = 0 ∧ prot = false) ∧ (fs ≠ [] → ret + 1 ≤ B) ∧ ∀ f', fs.getLast? = some f' → ∃ cl' p', getI clos f'.clo = some cl' ∧ getI g.protos cl'.p = some p' ∧ (B : Int) ≤ f'.base + p'.nslots + 128
/-- Frames that wait for two results each; the last one's operands end at e. -/
inductive Chain (stack : List V) : List Fr → Nat → Prop
  | nil : Chain stack [] 0
  | snoc {fs : List Fr} {f : Fr} {e : Nat} {cl : Cl} {p : Pr} {B pc : Nat} {st : List Bool} (h : Chain stack fs f.ret.toNat) (hc : getI clos f.clo = some cl) (hp : getI g.protos cl.p = some p) (hb : f.base = (B : Nat)) (hr : 0 ≤ f.ret ∧ f.ret ≤ B ∧ (B : Int) ≤ f.ret + 4 ∧ RX g clos fs f.ret f.prot B) (hpc : f.pc = (pc : Nat) ∧ (pc : Int) < p.ncode)
      (hst : (PT cl.p.toNat pc).st = st ++ [false, false]) (he : e = B + p.nslots.toNat + st.length) (hz : NumS stack B (PT cl.p.toNat pc).z) (ho : NumO stack (B + p.nslots.toNat) st) (hel : e ≤ stack.length) : Chain stack (fs ++ [f]) e
/-- The place q is a variable's of one of the frames. -/
def ZeroAt (fs : List Fr) (q : Int) : Prop := ∃ f, f ∈ fs ∧ ∃ (cl : Cl) (p : Pr) (B s : Nat), getI clos f.clo = some cl ∧ getI g.protos cl.p = some p ∧ f.base = (B : Nat) ∧ (PT cl.p.toNat f.pc.toNat).z[s]? = some 0 ∧ (s : Int) < p.nslots ∧ q = ((B + s : Nat) : Int)
end
/-- The thread's open cells: each at a place that Z allows, one above the other. -/
structure OpnOk (cells : List Ce) (u : Nat) (opn : List Int) (Z : Int → Prop) : Prop where
  at_ : ∀ j, j ∈ opn → ∃ e, getI cells j = some e ∧ e.th = (u : Int) ∧ Z e.at_
  up : opn.Pairwise fun i j => ∀ a b, getI cells i = some a → getI cells j = some b → a.at_ < b.at_
  len : opn.length ≤ cells.length
abbrev VVm (m : VM) (v : V) : Prop := VV m.vs.tabs.length m.vs.clos.length m.vs.threads.length v
/-- A thread that does not run. -/
def ThW (g : Pg) (PT : Nat → Nat → Ty) (m : VM) (u : Nat) (t : Th) : Prop :=
  (t.st = 1 ∧ t.stack = [] ∧ t.frames = [] ∧ t.opn = [] ∧ 0 ≤ t.fn ∧ t.fn < m.vs.clos.length) ∨
  ((t.st = 2 ∨ t.st = 3) ∧ (1 ≤ t.frames.length ∧ t.frames.length ≤ 8) ∧ Chain g PT m.vs.clos t.stack t.frames t.stack.length ∧ OpnOk m.vs.cells u t.opn (ZeroAt g PT m.vs.clos t.frames) ∧ ∀ v, v ∈ t.stack → VVm m v) ∨
  (t.st = 5 ∧ t.stack = [] ∧ t.frames = [] ∧ t.opn = [])
/-- What holds of the machine's other parts. -/
structure MI (g : Pg) (PT : Nat → Nat → Ty) (m : VM) (k : Nat := 0) : Prop where
  ok : PgOk g PT
  pg : m.pg = g
  tb : TsOk m.vs.tabs.length m.vs.clos.length m.vs.threads.length m.vs.tabs
  tn : 1 ≤ m.vs.tabs.length ∧ m.vs.tabs.length ≤ 12
  cn : m.vs.clos.length ≤ 24
  cl : ∀ (j : Nat) (c : Cl), m.vs.clos[j]? = some c → ∃ p, getI g.protos c.p = some p ∧ c.nup = p.nup ∧ 0 ≤ c.up ∧ c.up + c.nup ≤ m.vs.upix.length
  ux : ∀ u, u ∈ m.vs.upix → 0 ≤ u ∧ u < m.vs.cells.length
  ul : m.vs.upix.length ≤ 255 * m.vs.clos.length + k ∧ m.vs.cells.length ≤ m.vs.upix.length
  ce : ∀ (j : Nat) (e : Ce), m.vs.cells[j]? = some e → (0 ≤ e.th → ∃ t, m.vs.threads[e.th.toNat]? = some t ∧ (j : Int) ∈ t.opn) ∧ (e.th < 0 → VVm m e.v)
  hn : 1 ≤ m.vs.threads.length ∧ m.vs.threads.length ≤ 5
  fu : 0 ≤ m.vs.fuel ∧ m.vs.fuel ≤ 9223372036854775807
  ou : m.vs.out.length ≤ 200
  en : m.ended = 0
  cx : ∀ (j : Nat) (e : Ce), m.vs.cells[j]? = some e → (0 ≤ e.th → e.v = V.nil) ∧ (e.th < 0 → e.th = -1 ∧ e.at_ = 0)
  ct : ∃ W : Nat → Int, W 0 = 0 ∧ W m.vs.clos.length + k = m.vs.upix.length ∧ ∀ (j : Nat) (c : Cl), m.vs.clos[j]? = some c → c.up = W j ∧ W (j + 1) = W j + c.nup
  fn : ∀ (u : Nat) (t : Th), m.vs.threads[u]? = some t → 0 ≤ t.fn ∧ t.fn < m.vs.clos.length
/-- Where the running thread stands. -/
structure Cx where
  g : Pg
  PT : Nat → Nat → Ty
  th : Nat
  fs : List Fr
  f : Fr
  cl : Cl
  p : Pr
  B : Nat
def Cx.O (c : Cx) : Nat := c.B + c.p.nslots.toNat
def Cx.Z (c : Cx) (clos : List Cl) (z : List Nat) (q : Int) : Prop := (∃ s : Nat, z[s]? = some 0 ∧ (s : Int) < c.p.nslots ∧ q = ((c.B + s : Nat) : Int)) ∨ ZeroAt c.g c.PT clos c.fs q
/-- The running thread, ty: what is known of its frame. -/
structure ThR (c : Cx) (m : VM) (t : Th) (ty : Ty) : Prop where
  st : t.st = 4
  fr : t.frames = c.fs ++ [c.f]
  fl : c.fs.length < 8
  sl : t.stack.length = c.O + ty.st.length
  ch : Chain c.g c.PT m.vs.clos t.stack c.fs c.f.ret.toNat
  cl : getI m.vs.clos c.f.clo = some c.cl
  pr : getI c.g.protos c.cl.p = some c.p
  b : c.f.base = (c.B : Nat)
  rt : 0 ≤ c.f.ret ∧ c.f.ret ≤ c.B ∧ (c.B : Int) ≤ c.f.ret + 4 ∧ RX c.g m.vs.clos c.fs c.f.ret c.f.prot c.B
  sz : ty.st.length ≤ 1000
  zl : ty.z.length ≤ c.p.nslots.toNat
  ns : NumS t.stack c.B ty.z
  no : NumO t.stack c.O ty.st
  op : OpnOk m.vs.cells c.th t.opn (c.Z m.vs.clos ty.z)
  vv : ∀ v, v ∈ t.stack → VVm m v
structure RunX (c : Cx) (k : Nat) (m : VM) (ty : Ty) : Prop where
  mi : MI c.g c.PT m k
  run : ∃ t, m.vs.threads[c.th]? = some t ∧ ThR c m t ty
  oth : ∀ (u : Nat) (t : Th), u ≠ c.th → m.vs.threads[u]? = some t → ThW c.g c.PT m u t
abbrev RunT (c : Cx) (m : VM) (ty : Ty) : Prop := RunX c 0 m ty
section
variable {g : Pg} {PT : Nat → Nat → Ty} {clos : List Cl} {stack : List V}
theorem Chain.inv {fs : List Fr} {e : Nat} (h : Chain g PT clos stack fs e) : (fs = [] ∧ e = 0) ∨ ∃ (fs' : List Fr) (f : Fr) (cl : Cl) (p : Pr) (B pc : Nat) (st : List Bool), fs = fs' ++ [f] ∧ Chain g PT clos stack fs' f.ret.toNat ∧ getI clos f.clo = some cl ∧ getI g.protos cl.p = some p ∧ f.base = (B : Nat) ∧ (0 ≤ f.ret ∧ f.ret ≤ B ∧ (B : Int) ≤ f.ret + 4 ∧ RX g clos fs' f.ret f.prot B) ∧ (f.pc = (pc : Nat) ∧ (pc : Int) < p.ncode) ∧
      (PT cl.p.toNat pc).st = st ++ [false, false] ∧ e = B + p.nslots.toNat + st.length ∧ NumS stack B (PT cl.p.toNat pc).z ∧ NumO stack (B + p.nslots.toNat) st ∧ e ≤ stack.length := by
  cases h with
  | nil => exact .inl ⟨rfl, rfl⟩
  | snoc h hc hp hb hr hpc hst he hz ho hel => exact .inr ⟨_, _, _, _, _, _, _, rfl, h, hc, hp, hb, hr, hpc, hst, he, hz, ho, hel⟩
theorem getI_app {α : Type} {l : List α} {i : Int} {x : α} (h : getI l i = some x) (l2 : List α) : getI (l ++ l2) i = some x := by
  unfold getI at h ⊢
  split at h
  · rename_i hb
    rw [if_pos hb]
    have := (List.getElem?_eq_some_iff.1 h).1
    rw [List.getElem?_append_left this]; exact h
  · cases h
theorem at_take {l l' : List V} {e q : Nat} (h : l.take e = l'.take e) (hq : q < e) : l[q]? = l'[q]? := by
  have h1 : (l.take e)[q]? = l[q]? := List.getElem?_take_of_lt hq
  have h2 : (l'.take e)[q]? = l'[q]? := List.getElem?_take_of_lt hq
  rw [← h1, ← h2, h]
theorem RX.mono {fs : List Fr} {ret : Int} {prot : Bool} {B : Nat} {clos2 : List Cl} (h : RX g clos fs ret prot B) (hcl : ∀ i x, getI clos i = some x → getI clos2 i = some x) : RX g clos2 fs ret prot B := by
  refine ⟨h.1, h.2.1, fun f' hf => ?_⟩
  obtain ⟨cl', p', h1, h2, h3⟩ := h.2.2 f' hf
  exact ⟨cl', p', hcl _ _ h1, h2, h3⟩
/-- What lies above does not matter. -/
theorem Chain.congr (hok : PgOk g PT) : ∀ {fs : List Fr} {e : Nat} {clos2 : List Cl} {stack2 : List V}, Chain g PT clos stack fs e → stack.take e = stack2.take e → (∀ i x, getI clos i = some x → getI clos2 i = some x) → e ≤ stack2.length → Chain g PT clos2 stack2 fs e := by
  intro fs e clos2 stack2 h
  induction h with
  | nil => intro _ _ _; exact .nil
  | @snoc fs f e cl p B pc st h hc hp hb hr hpc hst he hz ho hel ih =>
    intro hs hcl hl
    have hpr := hok.pr cl.p.toNat p (by
      have := getI_some hp
      obtain ⟨_, _, _, hi, hx⟩ := this
      exact List.getElem?_eq_some_iff.2 ⟨hi, hx⟩)
    have hzl := (hpr.st pc hpc.2).2
    have hrl : f.ret.toNat ≤ e := by omega
    have hs2 : stack.take f.ret.toNat = stack2.take f.ret.toNat := by
      have := congrArg (List.take f.ret.toNat) hs
      rwa [List.take_take, List.take_take, Nat.min_eq_left hrl] at this
    refine .snoc (ih hs2 hcl (by omega)) (hcl _ _ hc) hp hb ⟨hr.1, hr.2.1, hr.2.2.1, hr.2.2.2.mono hcl⟩ hpc hst he (fun s hz2 => ?_) (fun j hj => ?_) hl
    · obtain ⟨v, hv, ht⟩ := hz s hz2
      have hsl := (List.getElem?_eq_some_iff.1 hz2).1
      exact ⟨v, by rw [← at_take hs (by omega)]; exact hv, ht⟩
    · obtain ⟨v, hv, ht⟩ := ho j hj
      have hjl := (List.getElem?_eq_some_iff.1 hj).1
      exact ⟨v, by rw [← at_take hs (by omega)]; exact hv, ht⟩
theorem Chain.bound (hok : PgOk g PT) {fs : List Fr} {e : Nat} (h : Chain g PT clos stack fs e) : e ≤ fs.length * 150 := by
  induction h with
  | nil => simp
  | @snoc fs f e cl p B pc st h hc hp hb hr hpc hst he hz ho hel ih =>
    have hpr := hok.pr cl.p.toNat p (by
      obtain ⟨_, _, _, hi, hx⟩ := getI_some hp
      exact List.getElem?_eq_some_iff.2 ⟨hi, hx⟩)
    have h1 := (hpr.st pc hpc.2).1
    have h2 := hpr.np
    rw [hst] at h1
    simp only [List.length_append, List.length_cons, List.length_nil] at h1 ⊢
    omega
theorem Chain.len {fs : List Fr} {e : Nat} (h : Chain g PT clos stack fs e) : e ≤ stack.length := by
  rcases h.inv with ⟨_, rfl⟩ | ⟨_, _, _, _, _, _, _, _, _, _, _, _, _, _, _, _, _, _, h⟩
  · exact Nat.zero_le _
  · exact h
/-- A variable's place lies below the end. -/
theorem Chain.zero_lt (hok : PgOk g PT) {fs : List Fr} {e : Nat} (h : Chain g PT clos stack fs e) {q : Int} (hq : ZeroAt g PT clos fs q) : 0 ≤ q ∧ q < e := by
  induction h with
  | nil => obtain ⟨f, hf, _⟩ := hq; cases hf
  | @snoc fs f e cl p B pc st h hc hp hb hr hpc hst he hz ho hel ih =>
    obtain ⟨f', hf', cl', p', B', s, h1, h2, h3, h4, h5, h6⟩ := hq
    rcases List.mem_append.1 hf' with hf' | hf'
    · have := ih ⟨f', hf', cl', p', B', s, h1, h2, h3, h4, h5, h6⟩
      omega
    · rw [List.mem_singleton] at hf'
      subst hf'
      rw [hc] at h1
      injection h1 with h1
      subst h1
      rw [hp] at h2
      injection h2 with h2
      subst h2
      omega
theorem ZeroAt.mono {clos2 : List Cl} {fs : List Fr} {q : Int} (h : ZeroAt g PT clos fs q) (hcl : ∀ i x, getI clos i = some x → getI clos2 i = some x) : ZeroAt g PT clos2 fs q := by
  obtain ⟨f, hf, cl, p, B, s, h1, h2⟩ := h
  exact ⟨f, hf, cl, p, B, s, hcl _ _ h1, h2⟩
/-- A store to a variable's place spoils no number. -/
theorem Chain.poke (hok : PgOk g PT) {fs : List Fr} {e : Nat} (h : Chain g PT clos stack fs e) {q : Nat} (hq : ZeroAt g PT clos fs (q : Int)) (v : V) : Chain g PT clos (stack.set q v) fs e := by
  induction h with
  | nil => obtain ⟨f, hf, _⟩ := hq; cases hf
  | @snoc fs f e cl p B pc st h hc hp hb hr hpc hst he hz ho hel ih =>
    have hpr := hok.pr cl.p.toNat p (by
      obtain ⟨_, _, _, hi, hx⟩ := getI_some hp
      exact List.getElem?_eq_some_iff.2 ⟨hi, hx⟩)
    have hzl := (hpr.st pc hpc.2).2
    obtain ⟨f', hf', cl', p', B', s, h1, h2, h3, h4, h5, h6⟩ := hq
    rcases List.mem_append.1 hf' with hf' | hf'
    · have hz2 : ZeroAt g PT clos fs (q : Int) := ⟨f', hf', cl', p', B', s, h1, h2, h3, h4, h5, h6⟩
      have hlt := h.zero_lt hok hz2
      refine .snoc (ih hz2) hc hp hb hr hpc hst he (fun s hs => ?_) (fun j hj => ?_) (by simpa using hel)
      · rw [List.getElem?_set_ne (by omega)]; exact hz s hs
      · rw [List.getElem?_set_ne (by omega)]; exact ho j hj
    · rw [List.mem_singleton] at hf'
      subst hf'
      rw [hc] at h1
      injection h1 with h1
      subst h1
      rw [hp] at h2
      injection h2 with h2
      subst h2
      have hBB : B' = B := by omega
      subst hBB
      have hsl := (List.getElem?_eq_some_iff.1 h4).1
      have hpcn : f'.pc.toNat = pc := by omega
      rw [hpcn] at h4
      refine .snoc (h.congr hok (by rw [List.take_set_of_le (by omega)]) (fun _ _ h => h) (by have := h.len; simpa using this)) hc hp hb hr hpc hst he (fun s2 hs => ?_) (fun j hj => ?_) (by simpa using hel)
      · have hne : s2 ≠ s := fun e => by subst e; rw [h4] at hs; cases hs
        rw [List.getElem?_set_ne (by omega)]; exact hz s2 hs
      · rw [List.getElem?_set_ne (by omega)]; exact ho j hj
end
end Go.Wl
