/- Plain: the shape of the code over the nodes in form, in one. -/
import Derived.Test.Qxb6500573aGreatDoorQR
namespace Go.Wl
open Go Go.Sl Go.Proofs
set_option linter.unusedVariables false
inductive SK where
  | ex
  | cl
  | ar (j : Nat)
  | it (i : Int)
  | st (br : Brk) (L' : List Nm8)
  | sts (br : Brk) (L' : List Nm8)
/-- The instructions of a counting loop: its head from p3 on, its foot from p4 on. -/
structure RndI (P : List Fs) (x len p3 p4 : Nat) : Prop where
  j0 : insP P x p3 = some (6, ((len + 2 : Nat) : Int))
  j1 : insP P x (p3 + 1) = some (30, (len : Int))
  j2 : insP P x (p3 + 2) = some (31, (len : Int))
  j3 : insP P x (p3 + 3) = some (22, ((p4 + 6 : Nat) : Int))
  j4 : insP P x (p3 + 4) = some (5, (len : Int))
  j5 : insP P x (p3 + 5) = some (6, ((len + 3 : Nat) : Int))
  k0 : insP P x p4 = some (29, ((len + 3 : Nat) : Int))
  k1 : insP P x (p4 + 1) = some (5, (len : Int))
  k2 : insP P x (p4 + 2) = some (5, ((len + 2 : Nat) : Int))
  k3 : insP P x (p4 + 3) = some (15, 1)
  k4 : insP P x (p4 + 4) = some (6, (len : Int))
  k5 : insP P x (p4 + 5) = some (21, ((p3 + 2 : Nat) : Int))
  k6 : insP P x (p4 + 6) = some (29, (len : Int))
/-- The instructions of a loop over a table. -/
structure WlkI (P : List Fs) (x len p1 p4 : Nat) : Prop where
  j0 : insP P x p1 = some (6, (len : Int))
  j1 : insP P x (p1 + 1) = some (2, 0)
  j2 : insP P x (p1 + 2) = some (6, ((len + 1 : Nat) : Int))
  j3 : insP P x (p1 + 3) = some (32, (len : Int))
  j4 : insP P x (p1 + 4) = some (22, ((p4 + 2 : Nat) : Int))
  k0 : insP P x p4 = some (29, ((len + 2 : Nat) : Int))
  k1 : insP P x (p4 + 1) = some (21, ((p1 + 3 : Nat) : Int))
  k2 : insP P x (p4 + 2) = some (29, (len : Int))
/-- The nodes lo+1 .. hi with the root n; their code in the function x from pc to pc'; E: the functions around; L: the locals alive. -/
inductive Sp (ns : List Nd) (P : List Fs) : SK → Nat → Nat → Nat → Sco → List Nm8 → Nat → Int → Nat → Prop
  | blank {lo x pc : Nat} {E : Sco} {L : List Nm8} (i : insP P x pc = some (2, 0)) : Sp ns P .ex lo lo x E L pc 0 (pc + 1)
  | lit {lo hi x pc : Nat} {E : Sco} {L : List Nm8} {d : Nd} {op : Int} (hl : lo < hi) (hd : ns[hi]? = some d) (hk : (d.k = 12 ∧ op = 2) ∨ (d.k = 13 ∧ op = 3) ∨ (d.k = 14 ∧ op = 4)) (i : insP P x pc = some (op, 0)) : Sp ns P .ex lo hi x E L pc hi (pc + 1)
  | num {lo hi x pc : Nat} {E : Sco} {L : List Nm8} {d : Nd} {c : Int} (hl : lo < hi) (hd : ns[hi]? = some d) (hk : d.k = 15) (i : insP P x pc = some (1, c)) (hc : kP P x c ⟨2, d.n, []⟩) : Sp ns P .ex lo hi x E L pc hi (pc + 1)
  | str {lo hi x pc : Nat} {E : Sco} {L : List Nm8} {d : Nd} {c : Int} (hl : lo < hi) (hd : ns[hi]? = some d) (hk : d.k = 16) (i : insP P x pc = some (1, c)) (hc : kP P x c ⟨3, 0, d.s⟩) : Sp ns P .ex lo hi x E L pc hi (pc + 1)
  | name {lo hi x pc : Nat} {E : Sco} {L : List Nm8} {d : Nd} (hl : lo < hi) (hd : ns[hi]? = some d) (hk : d.k = 17) (hs : nameOk d.s) (hv : VarS P x E L d.s 5 7 9 pc) : Sp ns P .ex lo hi x E L pc hi (pc + 1)
  | index {lo m1 m2 hi x pc p1 p2 : Nat} {E : Sco} {L : List Nm8} {d : Nd} (hl : m2 < hi) (hd : ns[hi]? = some d) (hk : d.k = 18) (h1 : Sp ns P .ex lo m1 x E L pc d.a p1) (h2 : Sp ns P .ex m1 m2 x E L p1 d.b p2) (i : insP P x p2 = some (11, 0)) : Sp ns P .ex lo hi x E L pc hi (p2 + 1)
  | call {lo hi x pc p1 : Nat} {E : Sco} {L : List Nm8} {d : Nd} (hl : lo < hi) (hd : ns[hi]? = some d) (hk : d.k = 19) (h : Sp ns P .cl lo hi x E L pc hi p1) (i : insP P x p1 = some (25, 0)) : Sp ns P .ex lo hi x E L pc hi (p1 + 1)
  | func {lo m1 m2 hi x pc y mm p1 p2 : Nat} {E : Sco} {L L1 ps : List Nm8} {d : Nd} {f : Fs} (hlo : lo ≤ m1) (hl : m2 < hi) (hd : ns[hi]? = some d) (hk : d.k = 20) (hn : d.n = (y : Int)) (i : insP P x pc = some (28, d.n)) (hf : P[y]? = some f) (hp : parS ns mm d.a ps) (hnp : f.nparams = (ps.length : Int)) (hps : ps.length ≤ 3 ∧ ∀ s, s ∈ ps → s ≠ [])
      (hb : Sp ns P (.sts none L1) m1 m2 y ((x, L) :: E) ps 0 d.b p1) (hv : levS P y ps.length L1 p1 p2) (hr : insP P y p2 = some (2, 0) ∧ insP P y (p2 + 1) = some (2, 0) ∧ insP P y (p2 + 2) = some (27, 0)) : Sp ns P .ex lo hi x E L pc hi (pc + 1)
  | table {lo m1 hi x pc p1 : Nat} {E : Sco} {L : List Nm8} {d : Nd} (hl : m1 < hi) (hd : ns[hi]? = some d) (hk : d.k = 21) (i : insP P x pc = some (14, 0)) (h : Sp ns P (.it 0) lo m1 x E L (pc + 1) d.a p1) : Sp ns P .ex lo hi x E L pc hi p1
  | bin {lo m1 m2 hi x pc p1 p2 : Nat} {E : Sco} {L : List Nm8} {d : Nd} (hl : m2 < hi) (hd : ns[hi]? = some d) (hk : d.k = 22) (ho : (1 ≤ d.n ∧ d.n ≤ 6) ∨ (11 ≤ d.n ∧ d.n ≤ 16) ∨ d.n = 20) (h1 : Sp ns P .ex lo m1 x E L pc d.a p1) (h2 : Sp ns P .ex m1 m2 x E L p1 d.b p2) (i : insP P x p2 = some (binaryM d.n)) : Sp ns P .ex lo hi x E L pc hi (p2 + 1)
  | una {lo m1 hi x pc p1 : Nat} {E : Sco} {L : List Nm8} {d : Nd} (hl : m1 < hi) (hd : ns[hi]? = some d) (hk : d.k = 23) (ho : d.n = 1 ∨ d.n = 2 ∨ d.n = 3) (h1 : Sp ns P .ex lo m1 x E L pc d.a p1) (i : insP P x p1 = some (unaryM d.n)) : Sp ns P .ex lo hi x E L pc hi (p1 + 1)
  | log {lo m1 m2 hi x pc p1 p2 : Nat} {E : Sco} {L : List Nm8} {d : Nd} {op : Int} (hl : m2 < hi) (hd : ns[hi]? = some d) (hk : (d.k = 24 ∧ op = 23) ∨ (d.k = 25 ∧ op = 24)) (h1 : Sp ns P .ex lo m1 x E L pc d.a p1) (i : insP P x p1 = some (op, (p2 : Int))) (h2 : Sp ns P .ex m1 m2 x E L (p1 + 1) d.b p2) : Sp ns P .ex lo hi x E L pc hi p2
  | clmk {lo m1 m2 hi x pc p1 p2 j : Nat} {E : Sco} {L : List Nm8} {d : Nd} (hl : m2 < hi) (hd : ns[hi]? = some d) (hk : d.k = 19) (h1 : Sp ns P .ex lo m1 x E L pc d.a p1) (h2 : Sp ns P (.ar j) m1 m2 x E L p1 d.b p2) (hj : j ≤ 3) (i : insP P x p2 = some (26, (j : Int))) : Sp ns P .cl lo hi x E L pc hi (p2 + 1)
  | anil {lo x pc : Nat} {E : Sco} {L : List Nm8} : Sp ns P (.ar 0) lo lo x E L pc 0 pc
  | acons {lo m hi x pc p1 p2 j : Nat} {E : Sco} {L : List Nm8} {d : Nd} (hm : lo < m) (hd : ns[m]? = some d) (h1 : Sp ns P .ex lo m x E L pc m p1) (h2 : Sp ns P (.ar j) m hi x E L p1 d.next p2) : Sp ns P (.ar (j + 1)) lo hi x E L pc m p2
  | inil {lo x pc : Nat} {E : Sco} {L : List Nm8} {i : Int} : Sp ns P (.it i) lo lo x E L pc 0 pc
  | icons {lo m hi x pc p1 p2 : Nat} {E : Sco} {L : List Nm8} {d : Nd} {i : Int} (hm : lo < m) (hd : ns[m]? = some d) (h1 : Sp ns P .ex lo m x E L pc m p1) (hi_ : insP P x p1 = some (13, i + 1)) (h2 : Sp ns P (.it (i + 1)) m hi x E L (p1 + 1) d.next p2) : Sp ns P (.it i) lo hi x E L pc m p2
  | loc0 {lo hi x pc : Nat} {E : Sco} {L : List Nm8} {br : Brk} {d : Nd} (hl : lo < hi) (hd : ns[hi]? = some d) (hk : d.k = 1) (ha : d.a = 0) (hs : d.s ≠ []) (i0 : insP P x pc = some (2, 0)) (i1 : insP P x (pc + 1) = some (6, (L.length : Int))) : Sp ns P (.st br (L ++ [d.s])) lo hi x E L pc hi (pc + 2)
  | loc1 {lo m1 hi x pc p1 : Nat} {E : Sco} {L : List Nm8} {br : Brk} {d : Nd} (hl : m1 < hi) (hd : ns[hi]? = some d) (hk : d.k = 1) (ha : d.a ≠ 0) (hs : d.s ≠ []) (h : Sp ns P .ex lo m1 x E L pc d.a p1) (i : insP P x p1 = some (6, (L.length : Int))) : Sp ns P (.st br (L ++ [d.s])) lo hi x E L pc hi (p1 + 1)
  | loc2 {lo m1 m2 hi x pc p1 : Nat} {E : Sco} {L : List Nm8} {br : Brk} {d a b : Nd} (hlo : lo ≤ m1) (hl : m2 < hi) (hd : ns[hi]? = some d) (hk : d.k = 2) (ha : nd ns d.a = some a) (hb : nd ns a.next = some b) (hs : a.s ≠ [] ∧ b.s ≠ []) (h : Sp ns P .cl m1 m2 x E L pc d.b p1) (i0 : insP P x p1 = some (6, (L.length : Int) + 1)) (i1 : insP P x (p1 + 1) = some (6, (L.length : Int))) : Sp ns P (.st br (L ++ [a.s, b.s])) lo hi x E L pc hi (p1 + 2)
  | locFn {lo m1 hi x pc p1 : Nat} {E : Sco} {L : List Nm8} {br : Brk} {d d1 : Nd} (hl : m1 < hi) (hd : ns[hi]? = some d) (hk : d.k = 3) (hs : d.s ≠ []) (hd1 : nd ns d.a = some d1) (hk1 : d1.k = 20) (h : Sp ns P .ex lo m1 x E (L ++ [d.s]) pc d.a p1) (i : insP P x p1 = some (6, (L.length : Int))) : Sp ns P (.st br (L ++ [d.s])) lo hi x E L pc hi (p1 + 1)
  | asgN {lo m1 m2 hi x pc p1 : Nat} {E : Sco} {L : List Nm8} {br : Brk} {d g : Nd} (hlo : lo ≤ m1) (hl : m2 < hi) (hd : ns[hi]? = some d) (hk : d.k = 4) (hg : nd ns d.a = some g) (hgk : g.k = 17) (hs : nameOk g.s) (h : Sp ns P .ex m1 m2 x E L pc d.b p1) (hv : VarS P x E L g.s 6 8 10 p1) : Sp ns P (.st br L) lo hi x E L pc hi (p1 + 1)
  | asgI {lo m1 m2 m3 m4 hi x pc p1 p2 p3 : Nat} {E : Sco} {L : List Nm8} {br : Brk} {d g : Nd} (hlo : m2 ≤ m3) (hl : m4 < hi) (hd : ns[hi]? = some d) (hk : d.k = 4) (hg : nd ns d.a = some g) (hgk : g.k ≠ 17) (h1 : Sp ns P .ex lo m1 x E L pc g.a p1) (h2 : Sp ns P .ex m1 m2 x E L p1 g.b p2) (h3 : Sp ns P .ex m3 m4 x E L p2 d.b p3) (i : insP P x p3 = some (12, 0)) : Sp ns P (.st br L) lo hi x E L pc hi (p3 + 1)
  | callS {lo m1 hi x pc p1 : Nat} {E : Sco} {L : List Nm8} {br : Brk} {d : Nd} (hl : m1 < hi) (hd : ns[hi]? = some d) (hk : d.k = 5) (h : Sp ns P .ex lo m1 x E L pc d.a p1) (i : insP P x p1 = some (25, 0)) : Sp ns P (.st br L) lo hi x E L pc hi (p1 + 1)
  | ife {lo m1 m2 m3 hi x pc p1 p2 p3 p4 p5 : Nat} {E : Sco} {L L1 L2 : List Nm8} {br : Brk} {d : Nd} (hl : m3 < hi) (hd : ns[hi]? = some d) (hk : d.k = 6) (h1 : Sp ns P .ex lo m1 x E L pc d.a p1) (i1 : insP P x p1 = some (22, ((p3 + 1 : Nat) : Int))) (h2 : Sp ns P (.sts br L1) m1 m2 x E L (p1 + 1) d.b p2) (v2 : levS P x L.length L1 p2 p3) (i2 : insP P x p3 = some (21, (p5 : Int))) (h3 : Sp ns P (.sts br L2) m2 m3 x E L (p3 + 1) d.c p4) (v3 : levS P x L.length L2 p4 p5) : Sp ns P (.st br L) lo hi x E L pc hi p5
  | whl {lo m1 m2 hi x pc p1 p2 p3 : Nat} {E : Sco} {L L1 : List Nm8} {br : Brk} {d : Nd} (hl : m2 < hi) (hd : ns[hi]? = some d) (hk : d.k = 7) (h1 : Sp ns P .ex lo m1 x E L pc d.a p1) (i1 : insP P x p1 = some (22, ((p3 + 1 : Nat) : Int))) (h2 : Sp ns P (.sts (some (L.length, p3 + 1)) L1) m1 m2 x E L (p1 + 1) d.b p2) (v2 : levS P x L.length L1 p2 p3) (i2 : insP P x p3 = some (21, (pc : Int))) : Sp ns P (.st br L) lo hi x E L pc hi (p3 + 1)
  | for2 {lo m1 m2 m3 hi x pc p1 p2 p4 p5 : Nat} {E : Sco} {L L1 : List Nm8} {br : Brk} {d da dl : Nd} {c : Int} (hl : m3 < hi) (hd : ns[hi]? = some d) (hk : d.k = 8) (hs : d.s ≠ []) (hda : nd ns d.a = some da) (hdl : nd ns da.next = some dl) (h1 : Sp ns P .ex lo m1 x E L pc d.a p1) (i1 : insP P x p1 = some (6, (L.length : Int)))
      (h2 : Sp ns P .ex m1 m2 x E (L ++ [[]]) (p1 + 1) da.next p2) (i2 : insP P x p2 = some (6, ((L.length + 1 : Nat) : Int))) (hn : dl.next = 0) (i3 : insP P x (p2 + 1) = some (1, c)) (hc : kP P x c ⟨2, 4607182418800017408, []⟩)
      (hr : RndI P x L.length (p2 + 2) p4) (hb : Sp ns P (.sts (some (L.length, p4 + 6)) L1) m2 m3 x E (L ++ [[], [], [], d.s]) (p2 + 2 + 6) d.b p5) (hv : levS P x (L.length + 4) L1 p5 p4) : Sp ns P (.st br L) lo hi x E L pc hi (p4 + 7)
  | for3 {lo m1 m2 m3 m4 hi x pc p1 p2 p3 p4 p5 : Nat} {E : Sco} {L L1 : List Nm8} {br : Brk} {d da dl : Nd} (hl : m4 < hi) (hd : ns[hi]? = some d) (hk : d.k = 8) (hs : d.s ≠ []) (hda : nd ns d.a = some da) (hdl : nd ns da.next = some dl) (h1 : Sp ns P .ex lo m1 x E L pc d.a p1) (i1 : insP P x p1 = some (6, (L.length : Int)))
      (h2 : Sp ns P .ex m1 m2 x E (L ++ [[]]) (p1 + 1) da.next p2) (i2 : insP P x p2 = some (6, ((L.length + 1 : Nat) : Int))) (hn : dl.next ≠ 0) (h3 : Sp ns P .ex m2 m3 x E (L ++ [[], []]) (p2 + 1) dl.next p3)
      (hr : RndI P x L.length p3 p4) (hb : Sp ns P (.sts (some (L.length, p4 + 6)) L1) m3 m4 x E (L ++ [[], [], [], d.s]) (p3 + 6) d.b p5) (hv : levS P x (L.length + 4) L1 p5 p4) : Sp ns P (.st br L) lo hi x E L pc hi (p4 + 7)
  | forIn {lo m1 m2 m3 hi x pc p1 p4 p5 : Nat} {E : Sco} {L L1 : List Nm8} {br : Brk} {d dk dv : Nd} (hlo : lo ≤ m1) (hl : m3 < hi) (hd : ns[hi]? = some d) (hk : d.k = 9) (hdk : nd ns d.a = some dk) (hdv : nd ns dk.next = some dv) (hs : dk.s ≠ [] ∧ dv.s ≠ []) (h1 : Sp ns P .ex m1 m2 x E L pc d.b p1)
      (hr : WlkI P x L.length p1 p4) (hb : Sp ns P (.sts (some (L.length, p4 + 2)) L1) m2 m3 x E (L ++ [[], [], dk.s, dv.s]) (p1 + 5) d.c p5) (hv : levS P x (L.length + 4) L1 p5 p4) : Sp ns P (.st br L) lo hi x E L pc hi (p4 + 3)
  | ret {lo m1 m2 hi x pc p1 p2 : Nat} {E : Sco} {L : List Nm8} {br : Brk} {d : Nd} (hl : m2 < hi) (hd : ns[hi]? = some d) (hk : d.k = 10) (h1 : Sp ns P .ex lo m1 x E L pc d.a p1) (h2 : Sp ns P .ex m1 m2 x E L p1 d.b p2) (i : insP P x p2 = some (27, 0)) : Sp ns P (.st br L) lo hi x E L pc hi (p2 + 1)
  | brk {lo hi x pc p1 base out : Nat} {E : Sco} {L : List Nm8} {d : Nd} (hl : lo < hi) (hd : ns[hi]? = some d) (hk : d.k = 11) (hv : levS P x base L pc p1) (i : insP P x p1 = some (21, (out : Int))) : Sp ns P (.st (some (base, out)) L) lo hi x E L pc hi (p1 + 1)
  | snil {lo x pc : Nat} {E : Sco} {L : List Nm8} {br : Brk} : Sp ns P (.sts br L) lo lo x E L pc 0 pc
  | scons {lo m hi x pc p1 p2 : Nat} {E : Sco} {L L1 L2 : List Nm8} {br : Brk} {d : Nd} (hm : lo < m) (hd : ns[m]? = some d) (h1 : Sp ns P (.st br L1) lo m x E L pc m p1) (h2 : Sp ns P (.sts br L2) m hi x E L1 p1 d.next p2) : Sp ns P (.sts br L2) lo hi x E L pc m p2
/-- What the nodes in form and the shape together give. -/
def SpL (ns : List Nd) (P : List Fs) : Kd → Nat → Nat → Int → Prop
  | .ex _, lo, hi, r => ∀ m x E L pc pc', (recS ns P m).expr x E L pc r pc' → Sp ns P .ex lo hi x E L pc r pc'
  | .cl _, lo, hi, r => ∀ m x E L pc pc', clS ns P (recS ns P m) x E L pc r pc' → Sp ns P .cl lo hi x E L pc r pc'
  | .it _ len, lo, hi, r => (∀ m e x E L pc j pc', argS ns (recS ns P m) e x E L pc r j pc' → j = len ∧ Sp ns P (.ar j) lo hi x E L pc r pc') ∧ ∀ m e x E L pc i pc', itmS ns P (recS ns P m) e x E L pc r i pc' → Sp ns P (.it i) lo hi x E L pc r pc'
  | .ps len, lo, hi, r => ∀ e l, parS ns e r l → l.length = len ∧ ∀ s, s ∈ l → s ≠ []
  | .st _ _ _, lo, hi, r => ∀ m x E L br pc pc' L', (recS ns P m).stmt x E L br pc r pc' L' → Sp ns P (.st br L') lo hi x E L pc r pc'
  | .bl _ _ _, lo, hi, r => ∀ m e x E L br pc pc' L', stsS ns (recS ns P m) e x E L br pc r pc' L' → Sp ns P (.sts br L') lo hi x E L pc r pc'
theorem nd_pos {ns : List Nd} {m : Nat} {d : Nd} (h : ns[m]? = some d) : nd ns (m : Int) = some d := by rw [nd_nat]; exact h
section
variable {ns : List Nd} {P : List Fs}
theorem ex_in {m x pc pc' hi : Nat} {E : Sco} {L : List Nm8} {d : Nd} (hd : ns[hi]? = some d) (h : (recS ns P m).expr x E L pc (hi : Int) pc') : ∃ m', m = m' + 1 ∧ exprS ns P (recS ns P m') x E L pc (hi : Int) pc' := by
  cases m with
  | zero => exact h.elim
  | succ m => exact ⟨m, rfl, h⟩
theorem st_in {m x pc pc' hi : Nat} {E : Sco} {L L' : List Nm8} {br : Brk} {d : Nd} (hd : ns[hi]? = some d) (h : (recS ns P m).stmt x E L br pc (hi : Int) pc' L') : ∃ m', m = m' + 1 ∧ stmtS ns P (recS ns P m') x E L br pc (hi : Int) pc' L' := by
  cases m with
  | zero => exact h.elim
  | succ m => exact ⟨m, rfl, h⟩
theorem blank_in {m x pc pc' lo : Nat} {E : Sco} {L : List Nm8} (h0 : ns[0]? = some nd0) (h : (recS ns P m).expr x E L pc 0 pc') : Sp ns P .ex lo lo x E L pc 0 pc' := by
  cases m with
  | zero => exact h.elim
  | succ m =>
    obtain ⟨d, hd, h⟩ := h
    rw [show (0 : Int) = ((0 : Nat) : Int) from rfl, nd_nat, h0] at hd
    injection hd with hd
    subst hd
    rw [if_pos (show nd0.k = 0 from rfl)] at h
    obtain ⟨h1, rfl⟩ := h
    exact .blank h1
end
end Go.Wl
