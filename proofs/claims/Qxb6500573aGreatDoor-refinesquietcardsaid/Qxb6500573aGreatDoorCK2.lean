/- Plain: package vm: what a check of the machine wants. -/
import Derived.Test.Qxb6500573aGreatDoorWChkB
namespace Go.Wl
open Go Go.Sl Go.Proofs
set_option linter.unusedVariables false
/-- The machine at rest, with a program in it. -/
structure VCl (m : VM) : Prop where
  pr : 1 ≤ m.pg.protos.length ∧ m.pg.protos.length ≤ 13
  cl : 1 ≤ m.vs.clos.length ∧ m.vs.clos.length ≤ 24
  th : 1 ≤ m.vs.threads.length ∧ m.vs.threads.length ≤ 5
  ce : m.vs.cells.length ≤ m.vs.upix.length ∧ m.vs.upix.length ≤ 6120
  tb : 1 ≤ m.vs.tabs.length ∧ m.vs.tabs.length ≤ 1000
  ar : m.pg.descs.length ≤ 1000000 ∧ m.pg.consts.length ≤ 100000 ∧ m.pg.code.length ≤ 1000000
  tl : ∃ U K C : Nat → Int, U 0 = 0 ∧ K 0 = 0 ∧ C 0 = 0 ∧ U m.pg.protos.length = m.pg.descs.length ∧ K m.pg.protos.length = m.pg.consts.length ∧ C m.pg.protos.length = m.pg.code.length ∧
    ∀ (j : Nat) p, m.pg.protos[j]? = some p → (p.up = U j ∧ p.k = K j ∧ p.code = C j) ∧ (0 ≤ p.nup ∧ p.nup ≤ 255 ∧ 0 ≤ p.nk ∧ 0 ≤ p.ncode) ∧ (0 ≤ p.nparams ∧ p.nparams ≤ 3 ∧ p.nparams ≤ p.nslots ∧ p.nslots ≤ 12) ∧ (U (j + 1) = U j + p.nup ∧ K (j + 1) = K j + p.nk ∧ C (j + 1) = C j + p.ncode) ∧ (0 ≤ U j ∧ U (j + 1) ≤ 1000000 ∧ 0 ≤ K j ∧ K (j + 1) ≤ 1000000 ∧ 0 ≤ C j ∧ C (j + 1) ≤ 1000000)
  ct : ∃ W : Nat → Int, W 0 = 0 ∧ W m.vs.clos.length = m.vs.upix.length ∧ ∀ (j : Nat) c, m.vs.clos[j]? = some c → ∃ p, getI m.pg.protos c.p = some p ∧ c.up = W j ∧ c.nup = p.nup ∧ W (j + 1) = W j + c.nup ∧ (0 ≤ W j ∧ W (j + 1) ≤ 1000000 ∧ 0 ≤ c.nup)
  ux : ∀ (j : Nat) x, m.vs.upix[j]? = some x → 0 ≤ x ∧ x < m.vs.cells.length
  ts : ∀ (i : Nat) t, m.vs.threads[i]? = some t → ThC m i t
  op : ∃ (O D : Nat → Int), O 0 = 0 ∧ D 0 = O m.vs.threads.length ∧ D m.vs.cells.length = 0 ∧ (∀ (i : Nat) t, m.vs.threads[i]? = some t → O (i + 1) = O i + t.opn.length ∧ 0 ≤ O i ∧ O (i + 1) ≤ 1000000) ∧ ∀ (j : Nat) c, m.vs.cells[j]? = some c → (0 ≤ c.th → D (j + 1) = D j - 1) ∧ (c.th < 0 → D (j + 1) = D j ∧ c.th = -1 ∧ c.at_ = 0) ∧ (-1000000 ≤ D j ∧ D j ≤ 1000000)
  sl : ∀ t, t ∈ m.vs.threads → t.stack.length ≤ 100000
  vk : ∀ v, v ∈ m.pg.consts → (v.t = 2 ∨ v.t = 3) ∧ validM v m = some true
  vc : ∀ c, c ∈ m.vs.cells → validM c.v m = some true
  vt : ∀ t, t ∈ m.vs.threads → ∀ v, v ∈ t.stack → validM v m = some true
/-- The machine at rest. -/
structure VCk (m : VM) : Prop where
  fu : 0 ≤ m.vs.fuel
  ou : m.vs.out.length ≤ 200
  no : m.ended ≠ 0 → (m.pg.protos.length = 0 ∧ m.pg.descs.length = 0 ∧ m.pg.consts.length = 0 ∧ m.pg.code.length = 0) ∧ m.vs.clos.length = 0 ∧ m.vs.upix.length = 0 ∧ m.vs.cells.length = 0 ∧ m.vs.threads.length = 0
  go : m.ended = 0 → VCl m
end Go.Wl
