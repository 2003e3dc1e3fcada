/- Plain: package syntax, the lexer. -/
import Derived.Test.Qxb6500573aGreatDoorWLex
import Derived.Test.Qxb6500573aGreatDoorSlRS
namespace Go.Wl
open Go Go.Sl Go.Proofs
set_option linter.unusedVariables false
structure Tok where
  kind : Int
  at_ : Int
  text : List UInt8
  bits : Int
  err : Int
def tokV (t : Tok) : List Value := [I t.kind, I t.at_, S t.text, .int .u64 t.bits, I t.err]
theorem tokV_len (t : Tok) : (tokV t).length = 5 := rfl
/-- src[i:e] -/
def cutS (src : List UInt8) (i e : Nat) : List UInt8 := (src.take e).drop i
inductive LexR where
  | skip (e : Nat)
  | tok (e : Nat) (t : Tok)
def twinOf (r : Int) : Option Int := if r = 46 ∨ r = 47 then some (IntKind.u8.wrap r) else if r = 61 ∨ r = 126 ∨ r = 60 ∨ r = 62 then some 61 else none
def signAt (src : List UInt8) (i : Nat) (r : Int) : Nat × List UInt8 := match twinOf r with
  | some tw => if i + 1 < src.length ∧ ((src.getD (i + 1) 0).toNat : Int) = tw then (i + 2, cutS src i (i + 2)) else (i + 1, encR r)
  | none => (i + 1, encR r)
def wordAt (src : List UInt8) (i : Nat) : LexR :=
  if (runF wordM src i : Int) - i ≤ 40 then .tok (runF wordM src i) ⟨keywordM (cutS src i (runF wordM src i)), i, cutS src i (runF wordM src i), 0, 14⟩ else .tok (runF wordM src i) ⟨1, i, [], 0, 14⟩
def numAt (src : List UInt8) (i : Nat) : Option LexR := match parseM (cutS src i (numberM src i)) with
  | none => none
  | some (f, er) => some (.tok (numberM src i) ⟨if er = 0 then 3 else 1, i, [], f, 2⟩)
def strAt (src : List UInt8) (i : Nat) : LexR :=
  let e := runF (untilP 34) src (i + 1) + 1
  if e ≤ src.length ∧ ((src.getD (e - 1) 0).toNat : Int) = 34 ∧ (e : Int) - i - 2 ≤ 40 then .tok e ⟨4, i, cutS src (i + 1) (e - 1), 0, 14⟩ else .tok e ⟨1, i, [], 0, 14⟩
def lexOne (src : List UInt8) (i : Nat) (r : Int) : Option LexR :=
  if r = 32 ∨ r = 9 ∨ r = 10 ∨ r = 13 then some (.skip (i + 1))
  else if r = 45 ∧ cutS src (i + 1) (min (i + 2) src.length) = [45] then some (.skip (runF (untilP 10) src i))
  else if letterM r = true then some (wordAt src i)
  else if 48 ≤ r ∧ r ≤ 57 then numAt src i
  else if r = 34 then some (strAt src i)
  else some (.tok (signAt src i r).1 ⟨signM (signAt src i r).2, i, [], 0, 13⟩)
def scanL : Nat → List UInt8 → Nat → Nat → List Tok → Option (List Tok)
  | 0, _, _, _, _ => none
  | n + 1, src, pos, endp, toks =>
    if 100000 < toks.length then none
    else if pos < src.length then
      (if pos < endp then scanL n src (pos + (runeAt src pos).2) endp toks
       else match lexOne src pos (runeAt src pos).1 with
        | none => none
        | some (.skip e) => scanL n src (pos + (runeAt src pos).2) e toks
        | some (.tok e t) => if t.kind = 1 then some (toks ++ [t]) else scanL n src (pos + (runeAt src pos).2) e (toks ++ [{ t with err := 0 }]))
    else some (toks ++ [⟨0, src.length, [], 0, 0⟩])
theorem numberM_le {src : List UInt8} {i : Nat} (hi : i ≤ src.length) : i ≤ numberM src i ∧ numberM src i ≤ src.length := by
  unfold numberM
  dsimp only
  have h1 := runF_le (p := digitM) hi
  generalize runF digitM src i = j at h1
  cases hg : src[j]? with
  | none => exact h1
  | some c =>
    have hj := (List.getElem?_eq_some_iff.1 hg).1
    dsimp only
    split
    · exact h1
    · split
      · have := runF_le (p := digitM) (src := src) (i := j + 1) (by omega); omega
      · split
        · rename_i hh
          have h2 : j + 2 ≤ src.length := by
            have := hh.1
            unfold hasM at this
            cases hq : src[j + 2]? with
            | none => rw [hq] at this; cases this
            | some d => have := (List.getElem?_eq_some_iff.1 hq).1; omega
          have := runF_le (p := digitM) (src := src) (i := j + 2) h2; omega
        · exact h1
end Go.Wl
