/- Plain: package syntax, Parse. -/
import Derived.Test.Qxb6500573aGreatDoorWFlatC
namespace Go.Wl
open Go Go.Sl Go.Proofs
set_option linter.unusedVariables false
inductive PR where
  | err (e at_ : Int)
  | ok (ns : List Nd) (root : Int)
def finS (fuel : Nat) (src : List UInt8) (toks : List Tok) (nodes0 : List Nd) (chunk : List T) (ps : PS) : Option (PR × List Tok × List Nd) :=
  if ps.err ≠ 0 then some (.err ps.err ps.at_, toks, nodes0)
  else bind2 ((recF fuel).chain chunk [nd0]) fun root ns =>
    if ns.length ≤ 1000000 then
      (if 300 < (ns.length : Int) - 1 then some (.err 17 src.length, toks, ns) else some (.ok ns root, toks, ns))
    else none
def endS (r : Option (List T)) (ps : PS) : PS := match r with
  | none => ps
  | some _ => if ps.cur.kind ≠ 0 then failP 15 ps else ps
def parseS (fuel : Nat) (src : List UInt8) (toks0 : List Tok) (nodes0 : List Nd) : Option (PR × List Tok × List Nd) :=
  if 2048 < (src.length : Int) then some (.err 1 0, toks0, nodes0)
  else bind1 (scanL fuel src 0 0 []) fun toks => bind1 toks[0]? fun t0 =>
    bind2 ((recP toks fuel).block 12 ⟨0, t0, 0, 0, 0, 0, 0⟩) fun r ps => finS fuel src toks nodes0 (r.getD []) (endS r ps)
/-- The parser's object. -/
def isSyn (sx : Nat) (nv : Value) (toks : List Tok) (nodes : List Nd) (s : Seg) : Prop := ∃ ta tc st na nc sN, Arr 156 5 ta toks.length tc (toks.flatMap tokV) st ∧ Arr 158 8 na nodes.length nc (nodes.flatMap ndV) sN ∧
  s = List.flatten [blk sx 106 [nv, .slice ta toks.length tc, .slice na nodes.length nc], st, sN]
def isTree (ns : List Nd) (root : Int) (tb : Nat) (s : Seg) : Prop := ∃ tn, s = List.flatten [blk tb 122 [.slice (some ⟨tn, 0, none⟩) ns.length ns.length, I root], blk tn 158 (ns.flatMap ndV)]
def parOk (gs : Seg) (sx : Nat) (nv : Value) (p : PR) (toks : List Tok) (nodes : List Nd) (v : Value) (H : Hp) : Prop := match p with
  | .err e a => v = .tuple #[.pointer none, I e, I a] ∧ ∃ s', isSyn sx nv toks nodes s' ∧ H = [gs, s']
  | .ok ns root => ∃ tb st s', v = .tuple #[pt tb, I 0, I 0] ∧ isTree ns root tb st ∧ isSyn sx nv toks nodes s' ∧ H = [gs, s', st]
theorem scanL_len : ∀ {n : Nat} {src : List UInt8} {pos e : Nat} {toks out : List Tok}, scanL n src pos e toks = some out → out.length ≤ 1000000
  | 0, _, _, _, _, _, h => by cases h
  | n + 1, src, pos, e, toks, out, h => by
    unfold scanL at h
    split at h
    · cases h
    · split at h
      · split at h
        · exact scanL_len h
        · split at h
          · cases h
          · exact scanL_len h
          · split at h
            · cases h; simp; omega
            · exact scanL_len h
      · cases h; simp; omega
theorem ndV_one (ns : List Nd) : (ns.flatMap ndV).all Value.oneCell' = true := by
  induction ns with
  | nil => rfl
  | cons x l ih => rw [List.flatMap_cons, List.all_append, ih, Bool.and_true]; rfl
end Go.Wl
