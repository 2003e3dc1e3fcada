/- Plain: the flat tree in form. -/
import Derived.Test.Qxb6500573aGreatDoorPF
namespace Go.Wl
open Go Go.Sl Go.Proofs
set_option linter.unusedVariables false
inductive Kd where
  | ex (q : Nat)
  | cl (q : Nat)
  | it (q len : Nat)
  | ps (len : Nat)
  | st (al : Nat) (lp : Bool) (al' : Nat)
  | bl (al : Nat) (lp : Bool) (al' : Nat)
def Kd.list : Kd → Bool
  | .it _ _ | .ps _ | .bl _ _ _ => true
  | _ => false
/-- The nodes lo+1 .. hi of ns are a part in form whose root is r. -/
inductive Nn (ns : List Nd) : Kd → Nat → Nat → Int → Nat → Nat → Prop
  | lit {q lo hi n : Nat} {a k nx : Int} (hd : ns[hi]? = some ⟨k, 0, 0, 0, nx, 0, [], a⟩) (hl : lo < hi) (hq : 1 ≤ q) (hk : k = 12 ∨ k = 13 ∨ k = 14) : Nn ns (.ex q) lo hi hi n n
  | num {q lo hi n : Nat} {a b nx : Int} (hd : ns[hi]? = some ⟨15, 0, 0, 0, nx, b, [], a⟩) (hl : lo < hi) (hq : 1 ≤ q) (hb : numOk b) : Nn ns (.ex q) lo hi hi n n
  | str {q lo hi n : Nat} {a nx : Int} {s : List UInt8} (hd : ns[hi]? = some ⟨16, 0, 0, 0, nx, 0, s, a⟩) (hl : lo < hi) (hq : 1 ≤ q) (hs : s.length ≤ 40) : Nn ns (.ex q) lo hi hi n n
  | name {q lo hi n : Nat} {a nx : Int} {s : List UInt8} (hd : ns[hi]? = some ⟨17, 0, 0, 0, nx, 0, s, a⟩) (hl : lo < hi) (hq : 1 ≤ q) (hs : nameOk s) : Nn ns (.ex q) lo hi hi n n
  | index {q q1 q2 lo m1 m2 hi n n1 n2 : Nat} {a nx : Int} (hd : ns[hi]? = some ⟨18, m1, m2, 0, nx, 0, [], a⟩) (hx : Nn ns (.ex q1) lo m1 m1 n n1) (hk : Nn ns (.ex q2) m1 m2 m2 n1 n2) (hl : m2 < hi) (h1 : q1 ≤ q) (h2 : q2 + 1 ≤ q) : Nn ns (.ex q) lo hi hi n n2
  | call {q q1 q2 lo m1 m2 hi n n1 n2 len : Nat} {a nx r : Int} (hd : ns[hi]? = some ⟨19, m1, r, 0, nx, 0, [], a⟩) (hf : Nn ns (.ex q1) lo m1 m1 n n1) (ha : Nn ns (.it q2 len) m1 m2 r n1 n2) (hl : m2 < hi) (hl3 : len ≤ 3) (h1 : q1 ≤ q) (h2 : q2 + 3 ≤ q) (h3 : 2 ≤ q) : Nn ns (.cl q) lo hi hi n n2
  | ofcl {q lo hi n n' : Nat} (h : Nn ns (.cl q) lo hi hi n n') : Nn ns (.ex q) lo hi hi n n'
  | func {q lo m1 m2 hi n n' len al : Nat} {a nx rp rb : Int} (hd : ns[hi]? = some ⟨20, rp, rb, 0, nx, (n : Int) + 1, [], a⟩) (hp : Nn ns (.ps len) lo m1 rp n n) (hb : Nn ns (.bl len false al) m1 m2 rb (n + 1) n') (hl : m2 < hi) (hq : 1 ≤ q) (hl3 : len ≤ 3) (hn : n < 12) : Nn ns (.ex q) lo hi hi n n'
  | table {q q1 lo m1 hi n n' len : Nat} {a nx r : Int} (hd : ns[hi]? = some ⟨21, r, 0, 0, nx, 0, [], a⟩) (hi_ : Nn ns (.it q1 len) lo m1 r n n') (hl : m1 < hi) (h1 : q1 + 1 ≤ q) : Nn ns (.ex q) lo hi hi n n'
  | bin {q q1 q2 lo m1 m2 hi n n1 n2 : Nat} {a o nx : Int} (hd : ns[hi]? = some ⟨22, m1, m2, 0, nx, o, [], a⟩) (ho : (1 ≤ o ∧ o ≤ 6) ∨ (11 ≤ o ∧ o ≤ 16) ∨ o = 20) (hx : Nn ns (.ex q1) lo m1 m1 n n1) (hy : Nn ns (.ex q2) m1 m2 m2 n1 n2) (hl : m2 < hi) (h1 : q1 ≤ q) (h2 : q2 + 1 ≤ q) : Nn ns (.ex q) lo hi hi n n2
  | log {q q1 q2 lo m1 m2 hi n n1 n2 : Nat} {a k o nx : Int} (hd : ns[hi]? = some ⟨k, m1, m2, 0, nx, o, [], a⟩) (hk : k = 24 ∨ k = 25) (hx : Nn ns (.ex q1) lo m1 m1 n n1) (hy : Nn ns (.ex q2) m1 m2 m2 n1 n2) (hl : m2 < hi) (h1 : q1 ≤ q) (h2 : q2 ≤ q) : Nn ns (.ex q) lo hi hi n n2
  | un {q q1 lo m1 hi n n1 : Nat} {a o nx : Int} (hd : ns[hi]? = some ⟨23, m1, 0, 0, nx, o, [], a⟩) (ho : o = 1 ∨ o = 2 ∨ o = 3) (hx : Nn ns (.ex q1) lo m1 m1 n n1) (hl : m1 < hi) (h1 : q1 ≤ q) : Nn ns (.ex q) lo hi hi n n1
  | inil {q lo n : Nat} : Nn ns (.it q 0) lo lo 0 n n
  | icons {q len lo m hi n n1 n2 : Nat} {d : Nd} {r : Int} (hd : ns[m]? = some d) (hn : d.next = r) (ht : Nn ns (.ex q) lo m m n n1) (hl : Nn ns (.it q len) m hi r n1 n2) : Nn ns (.it q (len + 1)) lo hi m n n2
  | pnil {lo n : Nat} : Nn ns (.ps 0) lo lo 0 n n
  | pcons {len lo m hi n : Nat} {d : Nd} {r : Int} (hd : ns[m]? = some d) (hn : d.next = r) (hs : nameOk d.s) (hm : lo < m) (hl : Nn ns (.ps len) m hi r n n) : Nn ns (.ps (len + 1)) lo hi m n n
  | loc0 {al lo hi n : Nat} {lp : Bool} {a nx : Int} {s : List UInt8} (hd : ns[hi]? = some ⟨1, 0, 0, 0, nx, 0, s, a⟩) (hl : lo < hi) (hs : nameOk s) (h : al + 1 ≤ 12) : Nn ns (.st al lp (al + 1)) lo hi hi n n
  | loc1 {al lo m1 hi n n1 q : Nat} {lp : Bool} {a nx : Int} {s : List UInt8} (hd : ns[hi]? = some ⟨1, m1, 0, 0, nx, 0, s, a⟩) (hl : m1 < hi) (hs : nameOk s) (hv : Nn ns (.ex q) lo m1 m1 n n1) (hq : q ≤ QQ) (h : al + 1 ≤ 12) : Nn ns (.st al lp (al + 1)) lo hi hi n n1
  | loc2 {al lo m1 m2 hi n n1 q : Nat} {lp : Bool} {a nx r : Int} (hd : ns[hi]? = some ⟨2, r, m2, 0, nx, 0, [], a⟩) (hl : m2 < hi) (hp : Nn ns (.ps 2) lo m1 r n n) (hv : Nn ns (.cl q) m1 m2 m2 n n1) (hq : q ≤ QQ) (h : al + 2 ≤ 12) : Nn ns (.st al lp (al + 2)) lo hi hi n n1
  | locFn {al lo m1 hi n n1 q : Nat} {lp : Bool} {a nx : Int} {s : List UInt8} (hd : ns[hi]? = some ⟨3, m1, 0, 0, nx, 0, s, a⟩) (hl : m1 < hi) (hs : nameOk s) (hk : ∃ d, ns[m1]? = some d ∧ d.k = 20) (hv : Nn ns (.ex q) lo m1 m1 n n1) (hq : q ≤ QQ) (h : al + 1 ≤ 12) : Nn ns (.st al lp (al + 1)) lo hi hi n n1
  | asgN {al lo m1 m2 hi n n1 q : Nat} {lp : Bool} {a nx : Int} {d : Nd} (hd : ns[hi]? = some ⟨4, m1, m2, 0, nx, 0, [], a⟩) (hd1 : ns[m1]? = some d) (hk : d.k = 17) (hs : nameOk d.s) (hl1 : lo < m1) (hl : m2 < hi) (hv : Nn ns (.ex q) m1 m2 m2 n n1) (hq : q ≤ QQ) : Nn ns (.st al lp al) lo hi hi n n1
  | asgI {al lo m1 m2 m3 m4 hi n n1 n2 n3 q q1 q2 : Nat} {lp : Bool} {a nx : Int} {d : Nd} (hd : ns[hi]? = some ⟨4, m3, m4, 0, nx, 0, [], a⟩) (hd1 : ns[m3]? = some d) (hk : d.k = 18 ∧ d.a = m1 ∧ d.b = m2) (hx : Nn ns (.ex q) lo m1 m1 n n1) (hy : Nn ns (.ex q1) m1 m2 m2 n1 n2) (hl3 : m2 < m3) (hv : Nn ns (.ex q2) m3 m4 m4 n2 n3) (hl : m4 < hi) (h0 : q ≤ QQ) (h1 : q1 + 1 ≤ QQ) (h2 : q2 + 2 ≤ QQ) : Nn ns (.st al lp al) lo hi hi n n3
  | callS {al lo m1 hi n n1 q : Nat} {lp : Bool} {a nx : Int} (hd : ns[hi]? = some ⟨5, m1, 0, 0, nx, 0, [], a⟩) (hl : m1 < hi) (hv : Nn ns (.cl q) lo m1 m1 n n1) (hq : q ≤ QQ) : Nn ns (.st al lp al) lo hi hi n n1
  | ife {al lo m1 m2 m3 hi n n1 n2 n3 q a1 a2 : Nat} {lp : Bool} {a nx r1 r2 : Int} (hd : ns[hi]? = some ⟨6, m1, r1, r2, nx, 0, [], a⟩) (hl : m3 < hi) (hc : Nn ns (.ex q) lo m1 m1 n n1) (hq : q ≤ QQ) (h1 : Nn ns (.bl al lp a1) m1 m2 r1 n1 n2) (h2 : Nn ns (.bl al lp a2) m2 m3 r2 n2 n3) : Nn ns (.st al lp al) lo hi hi n n3
  | whl {al lo m1 m2 hi n n1 n2 q a1 : Nat} {lp : Bool} {a nx r1 : Int} (hd : ns[hi]? = some ⟨7, m1, r1, 0, nx, 0, [], a⟩) (hl : m2 < hi) (hc : Nn ns (.ex q) lo m1 m1 n n1) (hq : q ≤ QQ) (h1 : Nn ns (.bl al true a1) m1 m2 r1 n1 n2) : Nn ns (.st al lp al) lo hi hi n n2
  | for2 {al lo m1 m2 m3 hi n n1 n2 n3 q q1 a1 : Nat} {lp : Bool} {a nx r : Int} {s : List UInt8} {d1 d2 : Nd} (hd : ns[hi]? = some ⟨8, m1, r, 0, nx, 0, s, a⟩) (hl : m3 < hi) (hs : nameOk s) (hf : Nn ns (.ex q) lo m1 m1 n n1) (hd1 : ns[m1]? = some d1) (hn1 : d1.next = m2) (hg : Nn ns (.ex q1) m1 m2 m2 n1 n2) (hd2 : ns[m2]? = some d2) (hn2 : d2.next = 0) (hq : q ≤ QQ) (hq1 : q1 ≤ QQ) (h : al + 4 ≤ 12) (h1 : Nn ns (.bl (al + 4) true a1) m2 m3 r n2 n3) : Nn ns (.st al lp al) lo hi hi n n3
  | for3 {al lo m1 m2 m3 m4 hi n n1 n2 n3 n4 q q1 q2 a1 : Nat} {lp : Bool} {a nx r : Int} {s : List UInt8} {d1 d2 : Nd} (hd : ns[hi]? = some ⟨8, m1, r, 0, nx, 0, s, a⟩) (hl : m4 < hi) (hs : nameOk s) (hf : Nn ns (.ex q) lo m1 m1 n n1) (hd1 : ns[m1]? = some d1) (hn1 : d1.next = m2) (hg : Nn ns (.ex q1) m1 m2 m2 n1 n2) (hd2 : ns[m2]? = some d2) (hn2 : d2.next = m3) (hst : Nn ns (.ex q2) m2 m3 m3 n2 n3) (hq : q ≤ QQ) (hq1 : q1 ≤ QQ) (hq2 : q2 ≤ QQ) (h : al + 4 ≤ 12) (h1 : Nn ns (.bl (al + 4) true a1) m3 m4 r n3 n4) : Nn ns (.st al lp al) lo hi hi n n4
  | forIn {al lo m1 m2 m3 hi n n1 n2 q a1 : Nat} {lp : Bool} {a nx r r1 : Int} (hd : ns[hi]? = some ⟨9, r, m2, r1, nx, 0, [], a⟩) (hl : m3 < hi) (hp : Nn ns (.ps 2) lo m1 r n n) (hx : Nn ns (.ex q) m1 m2 m2 n n1) (hq : q ≤ QQ) (h : al + 4 ≤ 12) (h1 : Nn ns (.bl (al + 4) true a1) m2 m3 r1 n1 n2) : Nn ns (.st al lp al) lo hi hi n n2
  | ret0 {al lo hi n : Nat} {lp : Bool} {a nx : Int} (hd : ns[hi]? = some ⟨10, 0, 0, 0, nx, 0, [], a⟩) (hl : lo < hi) : Nn ns (.st al lp al) lo hi hi n n
  | ret1 {al lo m1 hi n n1 q : Nat} {lp : Bool} {a nx : Int} (hd : ns[hi]? = some ⟨10, m1, 0, 0, nx, 0, [], a⟩) (hl : m1 < hi) (hx : Nn ns (.ex q) lo m1 m1 n n1) (hq : q ≤ QQ) : Nn ns (.st al lp al) lo hi hi n n1
  | ret2 {al lo m1 m2 hi n n1 n2 q q1 : Nat} {lp : Bool} {a nx : Int} (hd : ns[hi]? = some ⟨10, m1, m2, 0, nx, 0, [], a⟩) (hl : m2 < hi) (hx : Nn ns (.ex q) lo m1 m1 n n1) (hy : Nn ns (.ex q1) m1 m2 m2 n1 n2) (hq : q ≤ QQ) (hq1 : q1 + 1 ≤ QQ) : Nn ns (.st al lp al) lo hi hi n n2
  | brk {al lo hi n : Nat} {a nx : Int} (hd : ns[hi]? = some ⟨11, 0, 0, 0, nx, 0, [], a⟩) (hl : lo < hi) : Nn ns (.st al true al) lo hi hi n n
  | bnil {al lo n : Nat} {lp : Bool} : Nn ns (.bl al lp al) lo lo 0 n n
  | bcons {al al1 al2 lo m hi n n1 n2 : Nat} {lp : Bool} {d : Nd} {r : Int} (hd : ns[m]? = some d) (hn : d.next = r) (ht : Nn ns (.st al lp al1) lo m m n n1) (hl : Nn ns (.bl al1 lp al2) m hi r n1 n2) : Nn ns (.bl al lp al2) lo hi m n n2
theorem Nn.reg {ns : List Nd} {kd : Kd} {lo hi : Nat} {r : Int} {n n' : Nat} (h : Nn ns kd lo hi r n n') : lo ≤ hi ∧ n ≤ n' ∧ (kd.list = false → lo < hi) := by
  induction h with
  | inil | pnil | bnil => exact ⟨Nat.le_refl _, Nat.le_refl _, fun q => by cases q⟩
  | icons _ _ _ _ h1 h2 | bcons _ _ _ _ h1 h2 => exact ⟨by omega, by omega, fun q => by cases q⟩
  | pcons _ _ _ _ _ h2 => exact ⟨by omega, by omega, fun q => by cases q⟩
  | ofcl _ h => exact ⟨h.1, h.2.1, fun _ => h.2.2 rfl⟩
  | _ => refine ⟨by omega, by omega, fun _ => by omega⟩
/-- The same nodes; but the root's next may differ where the part is no list. -/
def Sm (l : Bool) (ns ns' : List Nd) (lo hi : Nat) : Prop := (∀ j, lo < j → j < hi → ns'[j]? = ns[j]?) ∧ (lo < hi → (l = true → ns'[hi]? = ns[hi]?) ∧ ∀ d, ns[hi]? = some d → ∃ nx, ns'[hi]? = some { d with next := nx })
theorem Sm.part {l : Bool} {ns ns' : List Nd} {lo hi : Nat} (h : Sm l ns ns' lo hi) {a b : Nat} (ha : lo ≤ a) (hb : b < hi) (l2 : Bool) : Sm l2 ns ns' a b :=
  ⟨fun j h1 h2 => h.1 j (by omega) (by omega), fun hab => ⟨fun _ => h.1 b (by omega) hb, fun d hd => ⟨d.next, by rw [h.1 b (by omega) hb, hd]⟩⟩⟩
theorem Sm.part2 {ns ns' : List Nd} {lo hi : Nat} (h : Sm true ns ns' lo hi) {a b : Nat} (ha : lo ≤ a) (hb : b ≤ hi) (l2 : Bool) : Sm l2 ns ns' a b :=
  ⟨fun j h1 h2 => h.1 j (by omega) (by omega), fun hab => by
    by_cases e : b < hi
    · exact (h.part ha e l2).2 hab
    · have : b = hi := by omega
      subst this
      have := (h.2 (by omega)).1 rfl
      exact ⟨fun _ => this, fun d hd => ⟨d.next, by rw [this, hd]⟩⟩⟩
theorem Sm.top {ns ns' : List Nd} {l : Bool} {lo hi : Nat} (h : Sm l ns ns' lo hi) (hl : lo < hi) {d : Nd} (hd : ns[hi]? = some d) : ∃ nx, ns'[hi]? = some { d with next := nx } := (h.2 hl).2 d hd
theorem Sm.in {ns ns' : List Nd} {l : Bool} {lo hi : Nat} (h : Sm l ns ns' lo hi) {j : Nat} (h1 : lo < j) (h2 : j < hi) {d : Nd} (hd : ns[j]? = some d) : ns'[j]? = some d := by rw [h.1 j h1 h2, hd]
theorem Sm.in2 {ns ns' : List Nd} {lo hi : Nat} (h : Sm true ns ns' lo hi) {j : Nat} (h1 : lo < j) (h2 : j ≤ hi) {d : Nd} (hd : ns[j]? = some d) : ns'[j]? = some d := by
  by_cases e : j < hi
  · exact h.in h1 e hd
  · have : j = hi := by omega
    subst this
    rw [(h.2 h1).1 rfl, hd]
theorem Nn.congr {ns ns' : List Nd} {kd : Kd} {lo hi : Nat} {r : Int} {n n' : Nat} (h : Nn ns kd lo hi r n n') : Sm kd.list ns ns' lo hi → Nn ns' kd lo hi r n n' := by
  induction h with
  | lit hd hl hq hk => intro hs; obtain ⟨nx, e⟩ := hs.top hl hd; exact .lit e hl hq hk
  | num hd hl hq hk => intro hs; obtain ⟨nx, e⟩ := hs.top hl hd; exact .num e hl hq hk
  | str hd hl hq hk => intro hs; obtain ⟨nx, e⟩ := hs.top hl hd; exact .str e hl hq hk
  | name hd hl hq hk => intro hs; obtain ⟨nx, e⟩ := hs.top hl hd; exact .name e hl hq hk
  | index hd hx hk hl h1 h2 i1 i2 =>
    intro hs
    have r1 := hx.reg; have r2 := hk.reg
    obtain ⟨nx, e⟩ := hs.top (by omega) hd
    exact .index e (i1 (hs.part (by omega) (by omega) _)) (i2 (hs.part (by omega) (by omega) _)) hl h1 h2
  | call hd hf ha hl hl3 h1 h2 h3 i1 i2 =>
    intro hs
    have r1 := hf.reg; have r2 := ha.reg
    obtain ⟨nx, e⟩ := hs.top (by omega) hd
    exact .call e (i1 (hs.part (by omega) (by omega) _)) (i2 (hs.part (by omega) (by omega) _)) hl hl3 h1 h2 h3
  | ofcl h i => intro hs; exact .ofcl (i hs)
  | func hd hp hb hl hq hl3 hn i1 i2 =>
    intro hs
    have r1 := hp.reg; have r2 := hb.reg
    obtain ⟨nx, e⟩ := hs.top (by omega) hd
    exact .func e (i1 (hs.part (by omega) (by omega) _)) (i2 (hs.part (by omega) (by omega) _)) hl hq hl3 hn
  | table hd hi hl h1 i1 =>
    intro hs
    have r1 := hi.reg
    obtain ⟨nx, e⟩ := hs.top (by omega) hd
    exact .table e (i1 (hs.part (by omega) (by omega) _)) hl h1
  | bin hd ho hx hy hl h1 h2 i1 i2 =>
    intro hs
    have r1 := hx.reg; have r2 := hy.reg
    obtain ⟨nx, e⟩ := hs.top (by omega) hd
    exact .bin e ho (i1 (hs.part (by omega) (by omega) _)) (i2 (hs.part (by omega) (by omega) _)) hl h1 h2
  | log hd ho hx hy hl h1 h2 i1 i2 =>
    intro hs
    have r1 := hx.reg; have r2 := hy.reg
    obtain ⟨nx, e⟩ := hs.top (by omega) hd
    exact .log e ho (i1 (hs.part (by omega) (by omega) _)) (i2 (hs.part (by omega) (by omega) _)) hl h1 h2
  | un hd ho hx hl h1 i1 =>
    intro hs
    have r1 := hx.reg
    obtain ⟨nx, e⟩ := hs.top (by omega) hd
    exact .un e ho (i1 (hs.part (by omega) (by omega) _)) hl h1
  | inil => intro hs; exact .inil
  | icons hd hn ht hl i1 i2 =>
    intro hs
    have r1 := ht.reg; have r2 := hl.reg; have r3 := r1.2.2 rfl
    exact .icons (Sm.in2 hs (by omega) (by omega) hd) hn (i1 (Sm.part2 hs (by omega) (by omega) _)) (i2 (Sm.part2 hs (by omega) (by omega) _))
  | pnil => intro hs; exact .pnil
  | pcons hd hn h hm hl i2 =>
    intro hs
    have r2 := hl.reg
    exact .pcons (Sm.in2 hs (by omega) (by omega) hd) hn h hm (i2 (Sm.part2 hs (by omega) (by omega) _))
  | loc0 hd hl h1 h => intro hs; obtain ⟨nx, e⟩ := hs.top hl hd; exact .loc0 e hl h1 h
  | loc1 hd hl h1 hv hq h i1 =>
    intro hs
    have r1 := hv.reg
    obtain ⟨nx, e⟩ := hs.top (by omega) hd
    exact .loc1 e hl h1 (i1 (hs.part (by omega) (by omega) _)) hq h
  | loc2 hd hl hp hv hq h i1 i2 =>
    intro hs
    have r1 := hp.reg; have r2 := hv.reg; have r3 := r2.2.2 rfl
    obtain ⟨nx, e⟩ := hs.top (by omega) hd
    exact .loc2 e hl (i1 (hs.part (by omega) (by omega) _)) (i2 (hs.part (by omega) (by omega) _)) hq h
  | locFn hd hl h1 hk hv hq h i1 =>
    intro hs
    have r1 := hv.reg
    have r2 := r1.2.2 rfl
    obtain ⟨nx, e⟩ := hs.top (by omega) hd
    obtain ⟨dk, k1, k2⟩ := hk
    exact .locFn e hl h1 ⟨dk, hs.in (by omega) (by omega) k1, k2⟩ (i1 (hs.part (by omega) (by omega) _)) hq h
  | asgN hd hd1 hk hs1 hl1 hl hv hq i1 =>
    intro hs
    have r1 := hv.reg
    obtain ⟨nx, e⟩ := hs.top (by omega) hd
    exact .asgN e (hs.in (by omega) (by omega) hd1) hk hs1 hl1 hl (i1 (hs.part (by omega) (by omega) _)) hq
  | asgI hd hd1 hk hx hy hl3 hv hl h0 h1 h2 i1 i2 i3 =>
    intro hs
    have r1 := hx.reg; have r2 := hy.reg; have r3 := hv.reg
    obtain ⟨nx, e⟩ := hs.top (by omega) hd
    exact .asgI e (hs.in (by omega) (by omega) hd1) hk (i1 (hs.part (by omega) (by omega) _)) (i2 (hs.part (by omega) (by omega) _)) hl3 (i3 (hs.part (by omega) (by omega) _)) hl h0 h1 h2
  | callS hd hl hv hq i1 =>
    intro hs
    have r1 := hv.reg
    obtain ⟨nx, e⟩ := hs.top (by omega) hd
    exact .callS e hl (i1 (hs.part (by omega) (by omega) _)) hq
  | ife hd hl hc hq h1 h2 i1 i2 i3 =>
    intro hs
    have r1 := hc.reg; have r2 := h1.reg; have r3 := h2.reg
    obtain ⟨nx, e⟩ := hs.top (by omega) hd
    exact .ife e hl (i1 (hs.part (by omega) (by omega) _)) hq (i2 (hs.part (by omega) (by omega) _)) (i3 (hs.part (by omega) (by omega) _))
  | whl hd hl hc hq h1 i1 i2 =>
    intro hs
    have r1 := hc.reg; have r2 := h1.reg
    obtain ⟨nx, e⟩ := hs.top (by omega) hd
    exact .whl e hl (i1 (hs.part (by omega) (by omega) _)) hq (i2 (hs.part (by omega) (by omega) _))
  | for2 hd hl hs1 hf hd1 hn1 hg hd2 hn2 hq hq1 h h1 i1 i2 i3 =>
    intro hs
    have r1 := hf.reg; have r2 := hg.reg; have r3 := h1.reg; have r4 := r1.2.2 rfl; have r5 := r2.2.2 rfl
    obtain ⟨nx, e⟩ := hs.top (by omega) hd
    exact .for2 e hl hs1 (i1 (hs.part (by omega) (by omega) _)) (hs.in (by omega) (by omega) hd1) hn1 (i2 (hs.part (by omega) (by omega) _)) (hs.in (by omega) (by omega) hd2) hn2 hq hq1 h (i3 (hs.part (by omega) (by omega) _))
  | for3 hd hl hs1 hf hd1 hn1 hg hd2 hn2 hst hq hq1 hq2 h h1 i1 i2 i3 i4 =>
    intro hs
    have r1 := hf.reg; have r2 := hg.reg; have r3 := h1.reg; have r4 := r1.2.2 rfl; have r5 := r2.2.2 rfl; have r6 := hst.reg
    obtain ⟨nx, e⟩ := hs.top (by omega) hd
    exact .for3 e hl hs1 (i1 (hs.part (by omega) (by omega) _)) (hs.in (by omega) (by omega) hd1) hn1 (i2 (hs.part (by omega) (by omega) _)) (hs.in (by omega) (by omega) hd2) hn2 (i3 (hs.part (by omega) (by omega) _)) hq hq1 hq2 h (i4 (hs.part (by omega) (by omega) _))
  | forIn hd hl hp hx hq h h1 i1 i2 i3 =>
    intro hs
    have r1 := hp.reg; have r2 := hx.reg; have r3 := h1.reg; have r5 := r2.2.2 rfl
    obtain ⟨nx, e⟩ := hs.top (by omega) hd
    exact .forIn e hl (i1 (hs.part (by omega) (by omega) _)) (i2 (hs.part (by omega) (by omega) _)) hq h (i3 (hs.part (by omega) (by omega) _))
  | ret0 hd hl => intro hs; obtain ⟨nx, e⟩ := hs.top hl hd; exact .ret0 e hl
  | ret1 hd hl hx hq i1 =>
    intro hs
    have r1 := hx.reg
    obtain ⟨nx, e⟩ := hs.top (by omega) hd
    exact .ret1 e hl (i1 (hs.part (by omega) (by omega) _)) hq
  | ret2 hd hl hx hy hq hq1 i1 i2 =>
    intro hs
    have r1 := hx.reg; have r2 := hy.reg
    obtain ⟨nx, e⟩ := hs.top (by omega) hd
    exact .ret2 e hl (i1 (hs.part (by omega) (by omega) _)) (i2 (hs.part (by omega) (by omega) _)) hq hq1
  | brk hd hl => intro hs; obtain ⟨nx, e⟩ := hs.top hl hd; exact .brk e hl
  | bnil => intro hs; exact .bnil
  | bcons hd hn ht hl i1 i2 =>
    intro hs
    have r1 := ht.reg; have r2 := hl.reg; have r3 := r1.2.2 rfl
    exact .bcons (Sm.in2 hs (by omega) (by omega) hd) hn (i1 (Sm.part2 hs (by omega) (by omega) _)) (i2 (Sm.part2 hs (by omega) (by omega) _))
end Go.Wl
