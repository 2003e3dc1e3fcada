/- Plain: package syntaxm: the lexer on demand and the parser's state. -/
import Derived.Test.Qxb6500573aGreatDoorWNmG
import Derived.Test.Qxb6500573aGreatDoorAF
namespace Go.Zm
open Go Go.Sl Go.Wl Go.Nm Go.Proofs
set_option linter.unusedVariables false
structure TS where
  k : Int
  s : List UInt8
  n : Nat
  at_ : Int
  e : Int
structure PZ where
  pos : Nat
  tok : TS
  nodes : List Nd
  err : Int
  at_ : Int
  alive : Int
  loops : Int
  funcs : Int
structure ZX where
  b : Nat
  nb : Nat
  src : List UInt8
  hl : src.length ≤ 2048
/-- The parser's block. -/
abbrev pzb (x : ZX) (nk nc : Nat) (m : PZ) : Seg := blk x.b 195 [pt x.nb, S x.src, I m.pos, I m.tok.k, S m.tok.s, .int .u64 m.tok.n, I m.tok.at_, I m.tok.e, .slice (some ⟨nk, 0, none⟩) m.nodes.length nc, I m.err, I m.at_, I m.alive, I m.loops, I m.funcs]
/-- The nodes' array. -/
abbrev pzn (nk : Nat) (ns : List Nd) (sp : List Value) : Seg := blk nk 158 (ns.flatMap ndV ++ sp)
def NzOk (nc : Nat) (ns : List Nd) (sp : List Value) : Prop := ns.length ≤ nc ∧ sp.length = (nc - ns.length) * 8
theorem NzOk.arr {nc : Nat} {ns : List Nd} {sp : List Value} (h : NzOk nc ns sp) (nk : Nat) : Arr 158 8 (some ⟨nk, 0, none⟩) ns.length nc (ns.flatMap ndV) (pzn nk ns sp) := Arr.mk (flat_len ndV_len _) h.1 h.2
theorem NzOk.set {nc : Nat} {ns : List Nd} {sp : List Value} (h : NzOk nc ns sp) (i : Nat) (d : Nd) : NzOk nc (ns.set i d) sp := by unfold NzOk; rw [List.length_set]; exact h
def ZRet (x : ZX) (m : PZ) (v0 : Value) (v : Value) (H : Hp) : Prop := v = v0 ∧ ∃ nk nc sp, NzOk nc m.nodes sp ∧ H = [pzb x nk nc m, pzn nk m.nodes sp]
def blankZ (c : UInt8) : Bool := decide ((c.toNat : Int) = 32 ∨ (c.toNat : Int) = 9 ∨ (c.toNat : Int) = 10 ∨ (c.toNat : Int) = 13)
def nlP (c : UInt8) : Bool := decide ((c.toNat : Int) ≠ 10)
def skipZ (src : List UInt8) : Nat → Nat → Nat
  | 0, i => i
  | f + 1, i => match src[i]? with
    | none => i
    | some c => bif blankZ c then skipZ src f (i + 1) else match src[i + 1]? with
      | none => i
      | some d => if (c.toNat : Int) = 45 ∧ (d.toNat : Int) = 45 then skipZ src f (runF nlP src i) else i
def letterZ (c : UInt8) : Bool := decide ((97 ≤ (c.toNat : Int) ∧ (c.toNat : Int) ≤ 122) ∨ (65 ≤ (c.toNat : Int) ∧ (c.toNat : Int) ≤ 90) ∨ (c.toNat : Int) = 95)
def kwZL : List (List UInt8) := [[97, 110, 100], [98, 114, 101, 97, 107], [100, 111], [101, 108, 115, 101], [101, 108, 115, 101, 105, 102], [101, 110, 100], [102, 97, 108, 115, 101], [102, 111, 114], [102, 117, 110, 99, 116, 105, 111, 110], [105, 102], [105, 110], [108, 111, 99, 97, 108], [110, 105, 108], [110, 111, 116], [111, 114], [114, 101, 116, 117, 114, 110], [116, 104, 101, 110], [116, 114, 117, 101], [119, 104, 105, 108, 101]]
def kwZ (s : List UInt8) : Bool := decide (s ∈ kwZL)
def powerZ (src : List UInt8) (i : Nat) : Bool := match src[i]?, src[i + 1]? with
  | some c, some d => if (c.toNat : Int) ≠ 112 then false else if (d.toNat : Int) = 45 then hasM src (i + 2) else digitM d
  | _, _ => false
theorem power_le {src : List UInt8} {i : Nat} (h : powerZ src i = true) : i + 2 ≤ src.length := by
  unfold powerZ at h
  by_cases h1 : i + 1 < src.length
  · omega
  · rw [List.getElem?_eq_none (l := src) (i := i + 1) (by omega)] at h
    cases h2 : src[i]? <;> rw [h2] at h <;> cases h
def dotZ (src : List UInt8) (i : Nat) : Bool := match src[i]? with
  | some c => bif decide ((c.toNat : Int) = 46) then hasM src (i + 1) else false
  | none => false
def numEnd (src : List UInt8) (a : Nat) : Nat :=
  let i := runF digitM src a
  bif dotZ src i then runF digitM src (i + 1) else bif powerZ src i then runF digitM src (i + 2) else i
def twoL : List (List UInt8) := [[61, 61], [126, 61], [60, 61], [62, 61], [46, 46], [47, 47]]
def oneL : List Nat := [43, 45, 42, 47, 37, 35, 60, 62, 61, 40, 41, 123, 125, 91, 93, 44, 46]
def subB (src : List UInt8) (a i : Nat) : List UInt8 := (src.take i).drop a
/-- The token at a; behind it. -/
def lexZ (src : List UInt8) (a : Nat) (c : UInt8) : Nat × TS :=
  bif letterZ c then
    (if 40 < runF wordM src a - a then (runF wordM src a, ⟨5, [], 0, a, 14⟩) else (runF wordM src a, ⟨bif kwZ (subB src a (runF wordM src a)) then 4 else 1, subB src a (runF wordM src a), 0, a, 0⟩))
  else bif digitM c then
    (if (parseW (subB src a (numEnd src a))).2 ≠ 0 then (numEnd src a, ⟨5, [], 0, a, 2⟩) else (numEnd src a, ⟨2, [], (parseW (subB src a (numEnd src a))).1, a, 0⟩))
  else if (c.toNat : Int) = 34 then
    (match src[runF (untilP 34) src (a + 1)]? with
      | none => (src.length, ⟨5, [], 0, a, 14⟩)
      | some d => if (d.toNat : Int) ≠ 34 then (src.length, ⟨5, [], 0, a, 14⟩) else if 40 < runF (untilP 34) src (a + 1) - a - 1 then (src.length, ⟨5, [], 0, a, 14⟩) else (runF (untilP 34) src (a + 1) + 1, ⟨3, subB src (a + 1) (runF (untilP 34) src (a + 1)), 0, a, 0⟩))
  else if a + 1 < src.length ∧ subB src a (a + 2) ∈ twoL then (a + 2, ⟨4, subB src a (a + 2), 0, a, 0⟩)
  else if c.toNat ∈ oneL then (a + 1, ⟨4, subB src a (a + 1), 0, a, 0⟩)
  else (src.length, ⟨5, [], 0, a, 13⟩)
def nextZ (src : List UInt8) (m : PZ) : Option PZ :=
  if m.pos ≤ src.length then
    match src[skipZ src (src.length + 1) m.pos]? with
    | none => some { m with pos := skipZ src (src.length + 1) m.pos, tok := ⟨0, [], 0, src.length, 0⟩ }
    | some c => some { m with pos := (lexZ src (skipZ src (src.length + 1) m.pos) c).1, tok := (lexZ src (skipZ src (src.length + 1) m.pos) c).2 }
  else none
def failZ (e : Int) (m : PZ) : PZ := if m.err ≠ 0 then m else { m with err := if m.tok.k = 5 then m.tok.e else e, at_ := m.tok.at_ }
def isZ (s : List UInt8) (m : PZ) : Bool := decide (m.tok.k = 4 ∧ m.tok.s = s)
def wantZ (src : List UInt8) (s : List UInt8) (m : PZ) : Option PZ := bif isZ s m then nextZ src m else some (failZ 15 m)
def deepZ (lv : Int) (m : PZ) : Bool × PZ := if 12 < lv then (true, failZ 16 m) else (false, m)
def addZ (d : Nd) (m : PZ) : Option (Int × PZ) := if m.nodes.length < 100000 then some ((m.nodes.length : Int), { m with nodes := m.nodes ++ [d] }) else none
def nameZ (src : List UInt8) (extra : Int) (m : PZ) : Option ((List UInt8 × Int) × PZ) :=
  if m.tok.k ≠ 1 then some (([], 0), failZ 15 m)
  else guardB m.alive <| if 0 < extra ∧ 12 < m.alive + extra then some (([], 0), failZ 18 m)
  else bind1 (nextZ src m) fun m' => some ((m.tok.s, m.tok.at_), m')
def tEnd : List UInt8 := [101, 110, 100]
def tElse : List UInt8 := [101, 108, 115, 101]
def tElseif : List UInt8 := [101, 108, 115, 101, 105, 102]
def endZ (m : PZ) : Bool := decide (m.tok.k = 0 ∨ (m.tok.k = 4 ∧ (m.tok.s = tEnd ∨ m.tok.s = tElse ∨ m.tok.s = tElseif)))
def binZ : List (List UInt8 × Int × Int) := [([61, 61], 1, 11), ([126, 61], 1, 12), ([60], 1, 13), ([60, 61], 1, 14), ([62], 1, 15), ([62, 61], 1, 16), ([43], 3, 1), ([45], 3, 2), ([42], 4, 3), ([47], 4, 4), ([47, 47], 4, 5), ([37], 4, 6)]
def findB (s : List UInt8) : List (List UInt8 × Int × Int) → Int × Int
  | [] => (0, 0)
  | b :: l => if s = b.1 then b.2 else findB s l
def binOpZ (r : Int) (m : PZ) : Int := if m.tok.k ≠ 4 then 0 else if (findB m.tok.s binZ).1 ≠ r then 0 else (findB m.tok.s binZ).2
def ndZ (k a b c : Int) (n : Int) (s : List UInt8) (at_ : Int) : Nd := ⟨k, a, b, c, 0, n, s, at_⟩
/-- nodes[last].Next = x -/
def setNx (last x : Int) (m : PZ) : Option PZ := if h : 0 ≤ last ∧ last.toNat < m.nodes.length then some { m with nodes := m.nodes.set last.toNat { m.nodes[last.toNat]'h.2 with next := x } } else none
theorem setNx_some {last x : Int} {m m' : PZ} (h : setNx last x m = some m') : ∃ (la : Nat) (hl : la < m.nodes.length), last = la ∧ m' = { m with nodes := m.nodes.set la { m.nodes[la] with next := x } } := by
  unfold setNx at h
  split at h
  · rename_i hq
    injection h with h
    exact ⟨last.toNat, hq.2, by omega, h.symm⟩
  · cases h
/-- nodes[i] -/
def nodeZ (i : Int) (m : PZ) : Option Nd := if h : 0 ≤ i ∧ i.toNat < m.nodes.length then some (m.nodes[i.toNat]'h.2) else none
theorem nodeZ_some {i : Int} {m : PZ} {d : Nd} (h : nodeZ i m = some d) : ∃ (k : Nat) (hk : k < m.nodes.length), i = k ∧ m.nodes[k] = d := by
  unfold nodeZ at h
  split at h
  · rename_i hq
    injection h with h
    exact ⟨i.toNat, hq.2, by omega, h⟩
  · cases h
end Go.Zm
