/- Plain: package syntax, the lexer's small functions. -/
import Derived.Test.Qxb6500573aGreatDoorWTabD
namespace Go.Wl
open Go Go.Sl Go.Proofs
set_option linter.unusedVariables false
def letterM (r : Int) : Bool := decide ((97 ≤ r ∧ r ≤ 122) ∨ (65 ≤ r ∧ r ≤ 90) ∨ r = 95)
def wordM (c : UInt8) : Bool := decide ((97 ≤ (c.toNat : Int) ∧ (c.toNat : Int) ≤ 122) ∨ (65 ≤ (c.toNat : Int) ∧ (c.toNat : Int) ≤ 90) ∨ (c.toNat : Int) = 95 ∨ (48 ≤ (c.toNat : Int) ∧ (c.toNat : Int) ≤ 57))
def digitM (c : UInt8) : Bool := decide (48 ≤ (c.toNat : Int) ∧ (c.toNat : Int) ≤ 57)
def untilP (stop : UInt8) (c : UInt8) : Bool := decide ((c.toNat : Int) ≠ stop.toNat ∧ (c.toNat : Int) ≠ 10)
/-- The first index from i on at which p fails. -/
def runF (p : UInt8 → Bool) (src : List UInt8) (i : Nat) : Nat := i + ((src.drop i).takeWhile p).length
theorem runF_step {p : UInt8 → Bool} {src : List UInt8} {i : Nat} (hi : i < src.length) (h : p src[i] = true) : runF p src i = runF p src (i + 1) := by
  unfold runF
  rw [List.drop_eq_getElem_cons hi, List.takeWhile_cons, h]
  simp; omega
theorem runF_stop {p : UInt8 → Bool} {src : List UInt8} {i : Nat} (h : ∀ hi : i < src.length, p src[i] = false) : runF p src i = i := by
  unfold runF
  by_cases hi : i < src.length
  · rw [List.drop_eq_getElem_cons hi, List.takeWhile_cons, h hi]; simp
  · rw [List.drop_eq_nil_of_le (by omega)]; rfl
theorem runF_le {p : UInt8 → Bool} {src : List UInt8} {i : Nat} (hi : i ≤ src.length) : i ≤ runF p src i ∧ runF p src i ≤ src.length := by
  unfold runF
  have := (List.takeWhile_prefix p (l := src.drop i)).length_le
  rw [List.length_drop] at this
  omega
def hasM (src : List UInt8) (i : Nat) : Bool := match src[i]? with
  | some c => digitM c
  | none => false
def numberM (src : List UInt8) (i0 : Nat) : Nat :=
  let i := runF digitM src i0
  match src[i]? with
  | none => i
  | some c =>
    if (c.toNat : Int) ≠ 46 ∧ (c.toNat : Int) ≠ 112 then i
    else if hasM src (i + 1) = true then runF digitM src (i + 1)
    else if hasM src (i + 2) = true ∧ (c.toNat : Int) = 112 ∧ ((src.getD (i + 1) 0).toNat : Int) = 45 then runF digitM src (i + 2)
    else i
def kwL : List (List UInt8) := [[98, 114, 101, 97, 107], [100, 111], [101, 108, 115, 101], [101, 108, 115, 101, 105, 102], [101, 110, 100], [102, 97, 108, 115, 101], [102, 111, 114], [102, 117, 110, 99, 116, 105, 111, 110], [105, 102], [105, 110], [108, 111, 99, 97, 108], [110, 105, 108], [110, 111, 116], [114, 101, 116, 117, 114, 110], [116, 104, 101, 110], [116, 114, 117, 101], [119, 104, 105, 108, 101], [111, 114], [97, 110, 100]]
def sgL : List (List UInt8) := [[61, 61], [126, 61], [60], [60, 61], [62], [62, 61], [46, 46], [43], [45], [42], [47], [47, 47], [37], [35], [61], [40], [41], [123], [125], [91], [93], [44], [46]]
/-- The first place of a text in a list, or none. -/
def placeOf (l : List (List UInt8)) (s : List UInt8) (k : Nat) : Option Nat := match l with
  | [] => none
  | w :: l => if w = s then some k else placeOf l s (k + 1)
def keywordM (s : List UInt8) : Int := match placeOf kwL s 0 with
  | some k => 5 + k
  | none => 2
def signM (s : List UInt8) : Int := match placeOf sgL s 0 with
  | some k => 24 + k
  | none => 1
/-- What the package's variables hold. -/
def GCell (gs : Seg) (b off : Nat) (v : Value) : Prop := ∃ c T fz, (b, Obj.cells c T fz) ∈ gs ∧ c[off]? = some v
theorem GCell.cell {gs : Seg} {b off : Nat} {v : Value} (h : GCell gs b off v) {H : Hp} (hg : gs ∈ H) : Cell H b off v := by
  obtain ⟨c, T, fz, h1, h2⟩ := h
  exact ⟨c, T, fz, List.mem_flatten.2 ⟨gs, hg, h1⟩, h2⟩
def GCells (gs : Seg) (b off : Nat) (vs : List Value) : Prop := ∃ c T fz, (b, Obj.cells c T fz) ∈ gs ∧ ∀ (j : Nat) (v : Value), vs[j]? = some v → c[off + j]? = some v
theorem GCells.cells {gs : Seg} {b off : Nat} {vs : List Value} (h : GCells gs b off vs) {H : Hp} (hg : gs ∈ H) : Cells H b off vs := by
  obtain ⟨c, T, fz, h1, h2⟩ := h
  exact ⟨c, T, fz, List.mem_flatten.2 ⟨gs, hg, h1⟩, h2⟩
def bindsL : List (Int × Int × Int) := [(1, 25, 0), (2, 24, 0), (3, 22, 11), (3, 22, 12), (3, 22, 13), (3, 22, 14), (3, 22, 15), (3, 22, 16), (4, 22, 20), (5, 22, 1), (5, 22, 2), (6, 22, 3), (6, 22, 4), (6, 22, 5), (6, 22, 6)]
structure GOk (gs : Seg) : Prop where
  kw : ∃ b o c, GCell gs 1 0 (.slice (some ⟨b, o, none⟩) 19 c) ∧ ∀ i (hi : i < kwL.length), GCell gs b (o + i) (S kwL[i])
  sg : ∃ b o c, GCell gs 2 0 (.slice (some ⟨b, o, none⟩) 23 c) ∧ ∀ i (hi : i < sgL.length), GCell gs b (o + i) (S sgL[i])
  bd : ∃ b o c, GCell gs 3 0 (.slice (some ⟨b, o, none⟩) 15 c) ∧ ∀ i (hi : i < bindsL.length), GCells gs b (o + i * 3) [I bindsL[i].1, I bindsL[i].2.1, .int .u64 bindsL[i].2.2]
end Go.Wl
