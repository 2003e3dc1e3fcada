/- Plain: package comp, Image. -/
import Derived.Test.Qxb6500573aGreatDoorWLay
namespace Go.Wl
open Go Go.Sl Go.Proofs
set_option linter.unusedVariables false
inductive IR where
  | err (e at_ : Int)
  | ok (im : List UInt8)
structure CSt where
  toks : List Tok
  nodes : List Nd
  s : CS
  buf : List Int
def compM (fuel : Nat) (ns : List Nd) (root : Int) (s : CS) : Option CS := bind1 (freshM 0 none { s with np := 0 }) fun s => bodyM ns (recC ns fuel) 0 root s
def imgM (fuel : Nat) (src : List UInt8) (c : CSt) : Option (IR × CSt) := bind1 (parseS fuel src c.toks c.nodes) fun r => match r.1 with
  | .err e a => some (.err e a, { c with toks := r.2.1, nodes := r.2.2 })
  | .ok ns root => if ns.length ≤ 1000000 then bind1 (compM fuel ns root c.s) fun s => bind1 (imageM s) fun im => some (.ok im, ⟨r.2.1, r.2.2, s, layM s⟩) else none
/-- What the compiler's object and the parser's hold between calls. -/
def isCst (cb fb sx : Nat) (nv dv : Value) (c : CSt) (seg : Seg) : Prop := ∃ s1 s2, seg = List.flatten [s1, s2] ∧ isSyn sx nv c.toks c.nodes s1 ∧ isCr cb fb (pt sx) dv c.s c.buf s2
def irV : IR → Value
  | .err e a => .tuple #[S [], I e, I a]
  | .ok im => .tuple #[S im, I 0, I 0]
theorem parse_ok {fuel : Nat} {src : List UInt8} {toks toks' : List Tok} {nodes nodes' : List Nd} {ns : List Nd} {root : Int} (h : parseS fuel src toks nodes = some (.ok ns root, toks', nodes')) : True := trivial
theorem parse_err {fuel : Nat} {src : List UInt8} {toks toks' : List Tok} {nodes nodes' : List Nd} {e a : Int} (h : parseS fuel src toks nodes = some (.err e a, toks', nodes')) : e ≠ 0 := by
  unfold parseS at h
  split at h
  · injection h with h; injection h with h1 h2; injection h1 with h1 h3; omega
  · obtain ⟨out, _, h⟩ := bnd1 h
    obtain ⟨t0, _, h⟩ := bnd1 h
    obtain ⟨r, ps, _, h⟩ := bnd2 h
    unfold finS at h
    split at h
    · rename_i hne
      injection h with h; injection h with h1 h2; injection h1 with h1 h3; subst h1; exact hne
    · obtain ⟨rt, ns, _, h⟩ := bnd2 h
      split at h
      · split at h
        · injection h with h; injection h with h1 h2; injection h1 with h1 h3; omega
        · injection h with h; injection h with h1 h2; cases h1
      · cases h
end Go.Wl
