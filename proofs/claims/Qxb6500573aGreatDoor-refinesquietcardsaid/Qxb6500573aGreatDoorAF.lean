/- Plain: package syntax, the tree laid flat. -/
import Derived.Test.Qxb6500573aGreatDoorWParD
import Derived.Test.Qxb6500573aGreatDoorFactsP
namespace Go.Wl
open Go Go.Sl Go.Proofs
set_option linter.unusedVariables false
/-- A node of the arena. -/
structure Nd where
  k : Int
  a : Int
  b : Int
  c : Int
  next : Int
  n : Int
  s : List UInt8
  at_ : Int
def ndV (n : Nd) : List Value := [I n.k, I n.a, I n.b, I n.c, I n.next, .int .u64 n.n, S n.s, I n.at_]
theorem ndV_len (n : Nd) : (ndV n).length = 8 := rfl
def nd0 : Nd := ⟨0, 0, 0, 0, 0, 0, [], 0⟩
abbrev ResF := Option (Int × List Nd)
def addF (n : Nd) (ns : List Nd) : ResF := if ns.length < 100000 then some ((ns.length : Int), ns ++ [n]) else none
structure RecF where
  expr : T → List Nd → ResF
  chain : List T → List Nd → ResF
section
variable (fc : RecF)
def optF (t : T) (ns : List Nd) : ResF := if t.isNil = true then some (0, ns) else fc.expr t ns
def exprF (t : T) (ns : List Nd) : ResF := match t with
  | .lit a k => addF ⟨k, 0, 0, 0, 0, 0, [], a⟩ ns
  | .num a n => addF ⟨15, 0, 0, 0, 0, n, [], a⟩ ns
  | .str a s => addF ⟨16, 0, 0, 0, 0, 0, s, a⟩ ns
  | .name a s => addF ⟨17, 0, 0, 0, 0, 0, s, a⟩ ns
  | .index a x k => bind2 (fc.expr x ns) fun p ns => bind2 (fc.expr k ns) fun q ns => addF ⟨18, p, q, 0, 0, 0, [], a⟩ ns
  | .call a f l => bind2 (fc.expr f ns) fun p ns => bind2 (fc.chain l ns) fun q ns => addF ⟨19, p, q, 0, 0, 0, [], a⟩ ns
  | .func a n ps body => bind2 (fc.chain ps ns) fun p ns => bind2 (fc.chain body ns) fun q ns => addF ⟨20, p, q, 0, 0, IntKind.u64.wrap n, [], a⟩ ns
  | .table a l => bind2 (fc.chain l ns) fun p ns => addF ⟨21, p, 0, 0, 0, 0, [], a⟩ ns
  | .bin a k o x y => bind2 (fc.expr x ns) fun p ns => bind2 (fc.expr y ns) fun q ns => addF ⟨k, p, q, 0, 0, o, [], a⟩ ns
  | .un a o x => bind2 (fc.expr x ns) fun p ns => addF ⟨23, p, 0, 0, 0, o, [], a⟩ ns
  | _ => none
def stmtF (t : T) (ns : List Nd) : ResF := match t with
  | .loc names v => match names with
    | .name a s :: rest => if ((rest.length + 1 : Nat) : Int) = 1 then bind2 (optF fc v ns) fun p ns => addF ⟨1, p, 0, 0, 0, 0, s, a⟩ ns
      else bind2 (fc.chain (.name a s :: rest) ns) fun p ns => bind2 (fc.expr v ns) fun q ns => addF ⟨2, p, q, 0, 0, 0, [], a⟩ ns
    | _ => none
  | .locFn a s f => bind2 (fc.expr f ns) fun p ns => addF ⟨3, p, 0, 0, 0, 0, s, a⟩ ns
  | .asg a x v => bind2 (fc.expr x ns) fun p ns => bind2 (fc.expr v ns) fun q ns => addF ⟨4, p, q, 0, 0, 0, [], a⟩ ns
  | .callS c => match c with
    | .call a f l => bind2 (fc.expr (.call a f l) ns) fun p ns => addF ⟨5, p, 0, 0, 0, 0, [], a⟩ ns
    | _ => none
  | .ife a c th el => bind2 (fc.expr c ns) fun p ns => bind2 (fc.chain th ns) fun q ns => bind2 (fc.chain el ns) fun r ns => addF ⟨6, p, q, r, 0, 0, [], a⟩ ns
  | .whl a c body => bind2 (fc.expr c ns) fun p ns => bind2 (fc.chain body ns) fun q ns => addF ⟨7, p, q, 0, 0, 0, [], a⟩ ns
  | .forN a s bounds body => bind2 (fc.chain bounds ns) fun p ns => bind2 (fc.chain body ns) fun q ns => addF ⟨8, p, q, 0, 0, 0, s, a⟩ ns
  | .forIn names x body => match names with
    | .name a s :: rest => bind2 (fc.chain (.name a s :: rest) ns) fun p ns => bind2 (fc.expr x ns) fun q ns => bind2 (fc.chain body ns) fun r ns => addF ⟨9, p, q, r, 0, 0, [], a⟩ ns
    | _ => none
  | .ret a x y => bind2 (optF fc x ns) fun p ns => bind2 (optF fc y ns) fun q ns => addF ⟨10, p, q, 0, 0, 0, [], a⟩ ns
  | .brk a => addF ⟨11, 0, 0, 0, 0, 0, [], a⟩ ns
  | _ => none
def T.isStmt : T → Bool
  | .loc _ _ | .locFn _ _ _ | .asg _ _ _ | .callS _ | .ife _ _ _ _ | .whl _ _ _ | .forN _ _ _ _ | .forIn _ _ _ | .ret _ _ _ | .brk _ => true
  | _ => false
def layF (t : T) (ns : List Nd) : ResF := bif t.isStmt then stmtF fc t ns else exprF fc t ns
def chainL : List T → Int → Int → List Nd → ResF
  | [], first, _, ns => some (first, ns)
  | t :: l, first, last, ns => bind2 (layF fc t ns) fun x ns =>
    if last = 0 then chainL l x x ns
    else if h : 0 ≤ last ∧ last.toNat < ns.length then chainL l first x (ns.set last.toNat { ns[last.toNat] with next := x }) else none
def chainF (l : List T) (ns : List Nd) : ResF := if l.length < 100000 then chainL fc l 0 0 ns else none
end
def recF : Nat → RecF
  | 0 => ⟨fun _ _ => none, fun _ _ => none⟩
  | n + 1 => ⟨exprF (recF n), chainF (recF n)⟩
/-- The flattener's block. -/
structure SX where
  b : Nat
  nv : Value
  tk : Value
def isNs (y : SX) (ns : List Nd) (s : Seg) : Prop := ∃ a c sN, Arr 158 8 a ns.length c (ns.flatMap ndV) sN ∧ s = List.flatten [blk y.b 106 [y.nv, y.tk, .slice a ns.length c], sN]
def fkOk (y : SX) (r : Int) (ns' : List Nd) (sn : Seg) (v : Value) (H : Hp) : Prop := v = I r ∧ ∃ s', isNs y ns' s' ∧ H = [s', sn]
theorem IsL.first {a : Int} {t : List UInt8} {rest : List T} {aa : Option Addr} {m c : Nat} {sl : Seg} (h : IsL (.name a t :: rest) aa m c sl) : ∃ ab nb l s', aa = some ⟨ab, 0, none⟩ ∧ m = rest.length + 1 ∧ sl = List.flatten [blk ab 236 (.iface 307 (pt nb) :: l), blk nb 358 [I a, S t], s'] := by
  have hm := h.len
  obtain ⟨h1, h2⟩ := h
  cases h1 with
  | cons hn hr =>
  cases hn
  obtain ⟨ab, sp, rfl, _, _, rfl⟩ := h2.row (by simp at hm; omega)
  exact ⟨ab, _, _, _, rfl, hm, by simp; rfl⟩
theorem IsN.callAt {a : Int} {f : T} {l : List T} {b : Nat} {s : Seg} (h : IsN (.call a f l) (.iface 302 (pt b)) s) : ∃ rest s', s = List.flatten [blk b 389 (I a :: rest), s'] := by
  cases h
  exact ⟨_, List.flatten [_, _], by simp; rfl⟩
theorem IsM.nth : ∀ {l : List T} {vs : List Value} {s : Seg}, IsM l vs s → ∀ {i : Nat} (hi : i < l.length), ∃ v s1 si s2, vs[i]? = some v ∧ s = List.flatten [s1, si, s2] ∧ IsN l[i] v si
  | _, _, _, .cons (v := v) (s := s) (s' := s') hn h, 0, _ => ⟨v, [], s, s', rfl, by simp, hn⟩
  | _, _, _, .cons (v := v) (s := s) (s' := s') hn h, i + 1, hi => by
    obtain ⟨v, s1, si, s2, h1, rfl, h3⟩ := h.nth (i := i) (by simp at hi; omega)
    exact ⟨v, s ++ s1, si, s2, by simpa using h1, by simp, by simpa using h3⟩
end Go.Wl
