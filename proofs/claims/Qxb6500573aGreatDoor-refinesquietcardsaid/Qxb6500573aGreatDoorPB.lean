/- Plain: trees in form. -/
import Derived.Test.Qxb6500573aGreatDoorPA
import Derived.Test.Qxb6500573aGreatDoorAP
set_option linter.unusedSimpArgs false
set_option linter.unusedVariables false
set_option linter.unusedSectionVars false
namespace Go.Wl
open Go Go.Sl Go.Proofs
set_option linter.unusedVariables false
def nameOk (s : List UInt8) : Prop := s ≠ [] ∧ s.length ≤ 40
/-- Names alone. -/
def WP (ps : List T) : Prop := ∀ t, t ∈ ps → ∃ a s, t = .name a s ∧ nameOk s
mutual
/-- A measure of the tree. -/
def T.sz : T → Nat
  | .index _ x k => x.sz + k.sz + 1
  | .call _ f l => f.sz + szL l + 1
  | .func _ _ _ body => szL body + 1
  | .table _ l => szL l + 1
  | .bin _ _ _ x y => x.sz + y.sz + 1
  | .un _ _ x => x.sz + 1
  | .loc _ v => v.sz
  | .locFn _ _ f => f.sz
  | .asg _ x v => x.sz + v.sz
  | .callS c => c.sz
  | .ife _ c th el => c.sz + szL th + szL el
  | .whl _ c body => c.sz + szL body
  | .forN _ _ bs body => szL bs + szL body
  | .forIn _ x body => x.sz + szL body
  | .ret _ x y => x.sz + y.sz
  | .nil => 0
  | .lit _ _ => 0
  | .num _ _ => 0
  | .str _ _ => 0
  | .name _ _ => 0
  | .brk _ => 0
def szL : List T → Nat
  | [] => 0
  | t :: l => t.sz + 1 + szL l
end
theorem szL_snoc (x : T) : ∀ l : List T, szL (l ++ [x]) = szL l + (x.sz + 1)
  | [] => by simp [szL]
  | t :: l => by
    rw [List.cons_append]
    unfold szL
    rw [szL_snoc x l]
    omega
/-- The operands that a statement's expressions may take. -/
abbrev QQ : Nat := 112
mutual
/-- An expression in form: it takes q operands at most; the function literals' numbers go from n to n'. -/
inductive WE : Nat → T → Nat → Nat → Prop
  | lit {q n : Nat} {a k : Int} (hq : 1 ≤ q) (hk : k = 12 ∨ k = 13 ∨ k = 14) : WE q (.lit a k) n n
  | num {q n : Nat} {a b : Int} (hq : 1 ≤ q) (hb : numOk b) : WE q (.num a b) n n
  | str {q n : Nat} {a : Int} {s : List UInt8} (hq : 1 ≤ q) (hs : s.length ≤ 40) : WE q (.str a s) n n
  | name {q n : Nat} {a : Int} {s : List UInt8} (hq : 1 ≤ q) (hs : nameOk s) : WE q (.name a s) n n
  | index {q q1 q2 n n1 n2 : Nat} {a : Int} {x k : T} (hx : WE q1 x n n1) (hk : WE q2 k n1 n2) (h1 : q1 ≤ q) (h2 : q2 + 1 ≤ q) : WE q (.index a x k) n n2
  | call {q q1 q2 n n1 n2 : Nat} {a : Int} {f : T} {l : List T} (hf : WE q1 f n n1) (hl : l.length ≤ 3) (ha : WI q2 l n1 n2) (h1 : q1 ≤ q) (h2 : q2 + 3 ≤ q) (h3 : 2 ≤ q) : WE q (.call a f l) n n2
  | func {q n n' al : Nat} {a num : Int} {ps body : List T} (hq : 1 ≤ q) (hp : WP ps) (hl : ps.length ≤ 3) (hn : n < 12) (hnum : num = (n : Int) + 1) (hb : WB ps.length false body (n + 1) n' al) : WE q (.func a num ps body) n n'
  | table {q q1 n n' : Nat} {a : Int} {l : List T} (hi : WI q1 l n n') (h1 : q1 + 1 ≤ q) : WE q (.table a l) n n'
  | bin {q q1 q2 n n1 n2 : Nat} {a o : Int} {x y : T} (ho : (1 ≤ o ∧ o ≤ 6) ∨ (11 ≤ o ∧ o ≤ 16) ∨ o = 20) (hx : WE q1 x n n1) (hy : WE q2 y n1 n2) (h1 : q1 ≤ q) (h2 : q2 + 1 ≤ q) : WE q (.bin a 22 o x y) n n2
  | log {q q1 q2 n n1 n2 : Nat} {a k o : Int} {x y : T} (hk : k = 24 ∨ k = 25) (ho : 0 ≤ o ∧ o ≤ 100) (hx : WE q1 x n n1) (hy : WE q2 y n1 n2) (h1 : q1 ≤ q) (h2 : q2 ≤ q) : WE q (.bin a k o x y) n n2
  | un {q q1 n n1 : Nat} {a o : Int} {x : T} (ho : o = 1 ∨ o = 2 ∨ o = 3) (hx : WE q1 x n n1) (h1 : q1 ≤ q) : WE q (.un a o x) n n1
inductive WI : Nat → List T → Nat → Nat → Prop
  | nil {q n : Nat} : WI q [] n n
  | cons {q n n1 n2 : Nat} {t : T} {l : List T} (ht : WE q t n n1) (hl : WI q l n1 n2) : WI q (t :: l) n n2
/-- A statement in form: al variables are alive before it, al' behind it; lp: within a loop. -/
inductive WS : Nat → Bool → T → Nat → Nat → Nat → Prop
  | loc0 {al n : Nat} {lp : Bool} {a : Int} {s : List UInt8} (hs : nameOk s) (h : al + 1 ≤ 12) : WS al lp (.loc [.name a s] .nil) n n (al + 1)
  | loc1 {al n n1 q : Nat} {lp : Bool} {a : Int} {s : List UInt8} {v : T} (hs : nameOk s) (hv : WE q v n n1) (hq : q ≤ QQ) (h : al + 1 ≤ 12) : WS al lp (.loc [.name a s] v) n n1 (al + 1)
  | loc2 {al n n1 q : Nat} {lp : Bool} {a b c : Int} {s s2 : List UInt8} {f : T} {l : List T} (hs : nameOk s) (hs2 : nameOk s2) (hv : WE q (.call c f l) n n1) (hq : q ≤ QQ) (h : al + 2 ≤ 12) : WS al lp (.loc [.name a s, .name b s2] (.call c f l)) n n1 (al + 2)
  | locFn {al n n1 q : Nat} {lp : Bool} {a c num : Int} {s : List UInt8} {ps body : List T} (hs : nameOk s) (hv : WE q (.func c num ps body) n n1) (hq : q ≤ QQ) (h : al + 1 ≤ 12) : WS al lp (.locFn a s (.func c num ps body)) n n1 (al + 1)
  | asgN {al n n1 q : Nat} {lp : Bool} {a b : Int} {s : List UInt8} {v : T} (hs : nameOk s) (hv : WE q v n n1) (hq : q ≤ QQ) : WS al lp (.asg a (.name b s) v) n n1 al
  | asgI {al n n1 n2 n3 q q1 q2 : Nat} {lp : Bool} {a b : Int} {x k v : T} (hx : WE q x n n1) (hk : WE q1 k n1 n2) (hv : WE q2 v n2 n3) (h0 : q ≤ QQ) (h1 : q1 + 1 ≤ QQ) (h2 : q2 + 2 ≤ QQ) : WS al lp (.asg a (.index b x k) v) n n3 al
  | callS {al n n1 q : Nat} {lp : Bool} {c : Int} {f : T} {l : List T} (hv : WE q (.call c f l) n n1) (hq : q ≤ QQ) : WS al lp (.callS (.call c f l)) n n1 al
  | ife {al n n1 n2 n3 q a1 a2 : Nat} {lp : Bool} {a : Int} {c : T} {th el : List T} (hc : WE q c n n1) (hq : q ≤ QQ) (h1 : WB al lp th n1 n2 a1) (h2 : WB al lp el n2 n3 a2) : WS al lp (.ife a c th el) n n3 al
  | whl {al n n1 n2 q a1 : Nat} {lp : Bool} {a : Int} {c : T} {body : List T} (hc : WE q c n n1) (hq : q ≤ QQ) (h1 : WB al true body n1 n2 a1) : WS al lp (.whl a c body) n n2 al
  | for2 {al n n1 n2 n3 q q1 a1 : Nat} {lp : Bool} {a : Int} {s : List UInt8} {f l : T} {body : List T} (hs : nameOk s) (hf : WE q f n n1) (hl : WE q1 l n1 n2) (hq : q ≤ QQ) (hq1 : q1 ≤ QQ) (h : al + 4 ≤ 12) (h1 : WB (al + 4) true body n2 n3 a1) : WS al lp (.forN a s [f, l] body) n n3 al
  | for3 {al n n1 n2 n3 n4 q q1 q2 a1 : Nat} {lp : Bool} {a : Int} {s : List UInt8} {f l st : T} {body : List T} (hs : nameOk s) (hf : WE q f n n1) (hl : WE q1 l n1 n2) (hst : WE q2 st n2 n3) (hq : q ≤ QQ) (hq1 : q1 ≤ QQ) (hq2 : q2 ≤ QQ) (h : al + 4 ≤ 12) (h1 : WB (al + 4) true body n3 n4 a1) : WS al lp (.forN a s [f, l, st] body) n n4 al
  | forIn {al n n1 n2 q a1 : Nat} {lp : Bool} {a b : Int} {s s2 : List UInt8} {x : T} {body : List T} (hs : nameOk s) (hs2 : nameOk s2) (hx : WE q x n n1) (hq : q ≤ QQ) (h : al + 4 ≤ 12) (h1 : WB (al + 4) true body n1 n2 a1) : WS al lp (.forIn [.name a s, .name b s2] x body) n n2 al
  | ret0 {al n : Nat} {lp : Bool} {a : Int} : WS al lp (.ret a .nil .nil) n n al
  | ret1 {al n n1 q : Nat} {lp : Bool} {a : Int} {x : T} (hx : WE q x n n1) (hq : q ≤ QQ) : WS al lp (.ret a x .nil) n n1 al
  | ret2 {al n n1 n2 q q1 : Nat} {lp : Bool} {a : Int} {x y : T} (hx : WE q x n n1) (hy : WE q1 y n1 n2) (hq : q ≤ QQ) (hq1 : q1 + 1 ≤ QQ) : WS al lp (.ret a x y) n n2 al
  | brk {al n : Nat} {a : Int} : WS al true (.brk a) n n al
inductive WB : Nat → Bool → List T → Nat → Nat → Nat → Prop
  | nil {al n : Nat} {lp : Bool} : WB al lp [] n n al
  | cons {al al1 al2 n n1 n2 : Nat} {lp : Bool} {t : T} {l : List T} (ht : WS al lp t n n1 al1) (hl : WB al1 lp l n1 n2 al2) : WB al lp (t :: l) n n2 al2
end
theorem WI.snoc {q : Nat} : ∀ {l : List T} {n n1 n2 : Nat} {t : T}, WI q l n n1 → WE q t n1 n2 → WI q (l ++ [t]) n n2
  | [], n, n1, n2, t, h, ht => by
    cases h
    exact .cons ht .nil
  | x :: l, n, n1, n2, t, h, ht => by
    cases h with
    | cons h1 h2 => exact .cons h1 (WI.snoc h2 ht)
theorem WB.snoc {lp : Bool} : ∀ {l : List T} {al al1 al2 n n1 n2 : Nat} {t : T}, WB al lp l n n1 al1 → WS al1 lp t n1 n2 al2 → WB al lp (l ++ [t]) n n2 al2
  | [], al, al1, al2, n, n1, n2, t, h, ht => by
    cases h
    exact .cons ht .nil
  | x :: l, al, al1, al2, n, n1, n2, t, h, ht => by
    cases h with
    | cons h1 h2 => exact .cons h1 (WB.snoc h2 ht)
theorem WE.nn {q : Nat} {t : T} {n n' : Nat} (h : WE q t n n') : t.isNil = false := by cases h <;> rfl
theorem WE.pos {q : Nat} {t : T} {n n' : Nat} (h : WE q t n n') : t ≠ .nil := fun e => by subst e; cases h
end Go.Wl
