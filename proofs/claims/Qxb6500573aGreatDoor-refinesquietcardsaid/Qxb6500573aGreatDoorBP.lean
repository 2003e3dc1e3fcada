/- Plain: the lexer by what is left of the text. -/
import Derived.Test.Qxb6500573aGreatDoorBO
import Derived.Laws.RangeString
namespace Go.Wl
open Go Go.Sl Go.Proofs
set_option linter.unusedVariables false
def ascii (l : List UInt8) : Prop := ∀ c, c ∈ l → c.toNat < 128
theorem rune_ascii {l : List UInt8} (h : ascii l) {i : Nat} (hi : i < l.length) : runeAt l i = (l[i].toNat, 1) := by
  unfold runeAt
  exact decode_ascii ⟨⟨l⟩⟩ i hi (h _ (List.getElem_mem hi))
def hasS (w : List UInt8) : Bool := match w with
  | c :: _ => digitM c
  | [] => false
def dgN (w : List UInt8) : Nat := (w.takeWhile digitM).length
/-- How long the number is with which the text begins. -/
def numS (w : List UInt8) : Nat := match w.drop (dgN w) with
  | [] => dgN w
  | c :: r =>
    if (c.toNat : Int) ≠ 46 ∧ (c.toNat : Int) ≠ 112 then dgN w
    else if hasS r = true then dgN w + 1 + dgN r
    else if hasS (r.drop 1) = true ∧ (c.toNat : Int) = 112 ∧ ((r.getD 0 0).toNat : Int) = 45 then dgN w + 2 + dgN (r.drop 1)
    else dgN w
theorem runF_drop (p : UInt8 → Bool) (src : List UInt8) (i : Nat) : runF p src i = i + ((src.drop i).takeWhile p).length := rfl
theorem hasM_drop (src : List UInt8) (i : Nat) : hasM src i = hasS (src.drop i) := by
  unfold hasM hasS
  rw [← List.head?_drop]
  cases src.drop i <;> rfl
theorem numberM_drop (src : List UInt8) (i : Nat) : numberM src i = i + numS (src.drop i) := by
  unfold numberM numS
  dsimp only
  rw [runF_drop]
  have e1 : src[i + ((src.drop i).takeWhile digitM).length]? = ((src.drop i).drop (dgN (src.drop i))).head? := by
    rw [List.drop_drop, List.head?_drop]
    rfl
  rw [e1]
  have e2 : ∀ j, src.drop (i + dgN (src.drop i) + j) = ((src.drop i).drop (dgN (src.drop i))).drop j := fun j => by rw [List.drop_drop, List.drop_drop]; congr 1; omega
  cases hd : (src.drop i).drop (dgN (src.drop i)) with
  | nil => rfl
  | cons c r =>
    dsimp only [List.head?_cons]
    have r1 : src.drop (i + dgN (src.drop i) + 1) = r := by rw [e2, hd]; rfl
    have r2 : src.drop (i + dgN (src.drop i) + 2) = r.drop 1 := by rw [e2, hd]; rfl
    have g1 : src.getD (i + dgN (src.drop i) + 1) 0 = r.getD 0 0 := by
      rw [← r1, List.getD_eq_getElem?_getD, List.getD_eq_getElem?_getD, List.getElem?_drop]
    have f1 : hasM src (i + ((src.drop i).takeWhile digitM).length + 1) = hasS r := by rw [hasM_drop]; show hasS (src.drop (i + dgN (src.drop i) + 1)) = _; rw [r1]
    have f2 : hasM src (i + ((src.drop i).takeWhile digitM).length + 2) = hasS (r.drop 1) := by rw [hasM_drop]; show hasS (src.drop (i + dgN (src.drop i) + 2)) = _; rw [r2]
    have f3 : runF digitM src (i + ((src.drop i).takeWhile digitM).length + 1) = i + (dgN (src.drop i) + 1 + dgN r) := by
      rw [runF_drop]
      show i + dgN (src.drop i) + 1 + ((src.drop (i + dgN (src.drop i) + 1)).takeWhile digitM).length = _
      rw [r1]
      show i + dgN (src.drop i) + 1 + dgN r = _
      omega
    have f4 : runF digitM src (i + ((src.drop i).takeWhile digitM).length + 2) = i + (dgN (src.drop i) + 2 + dgN (r.drop 1)) := by
      rw [runF_drop]
      show i + dgN (src.drop i) + 2 + ((src.drop (i + dgN (src.drop i) + 2)).takeWhile digitM).length = _
      rw [r2]
      show i + dgN (src.drop i) + 2 + dgN (r.drop 1) = _
      omega
    have f5 : src.getD (i + ((src.drop i).takeWhile digitM).length + 1) 0 = r.getD 0 0 := g1
    rw [f1, f2, f3, f4, f5]
    split
    · rfl
    · split
      · rfl
      · split <;> rfl
theorem cut_drop (src : List UInt8) (i n : Nat) : cutS src i (i + n) = (src.drop i).take n := by
  unfold cutS
  rw [List.drop_take]
  congr 1
  omega
/-- The lexer's answer; the end is told from the token's start on. -/
def lexS (w : List UInt8) (pos : Nat) (r : Int) : Option LexR :=
  if r = 32 ∨ r = 9 ∨ r = 10 ∨ r = 13 then some (.skip 1)
  else if r = 45 ∧ (w.drop 1).take 1 = [45] then some (.skip (w.takeWhile (untilP 10)).length)
  else if letterM r = true then
    (if ((w.takeWhile wordM).length : Int) ≤ 40 then some (.tok (w.takeWhile wordM).length ⟨keywordM (w.takeWhile wordM), pos, w.takeWhile wordM, 0, 14⟩) else some (.tok (w.takeWhile wordM).length ⟨1, pos, [], 0, 14⟩))
  else if 48 ≤ r ∧ r ≤ 57 then (match parseM (w.take (numS w)) with
    | none => none
    | some (f, er) => some (.tok (numS w) ⟨if er = 0 then 3 else 1, pos, [], f, 2⟩))
  else if r = 34 then
    (if ((w.drop 1).takeWhile (untilP 34)).length + 2 ≤ w.length ∧ ((w.getD (((w.drop 1).takeWhile (untilP 34)).length + 1) 0).toNat : Int) = 34 ∧ (((w.drop 1).takeWhile (untilP 34)).length : Int) ≤ 40 then some (.tok (((w.drop 1).takeWhile (untilP 34)).length + 2) ⟨4, pos, (w.drop 1).takeWhile (untilP 34), 0, 14⟩) else some (.tok (((w.drop 1).takeWhile (untilP 34)).length + 2) ⟨1, pos, [], 0, 14⟩))
  else match twinOf r with
    | some tw => if 1 < w.length ∧ ((w.getD 1 0).toNat : Int) = tw then some (.tok 2 ⟨signM (w.take 2), pos, [], 0, 13⟩) else some (.tok 1 ⟨signM (encR r), pos, [], 0, 13⟩)
    | none => some (.tok 1 ⟨signM (encR r), pos, [], 0, 13⟩)
def LexR.at (i : Nat) : LexR → LexR
  | .skip e => .skip (i + e)
  | .tok e t => .tok (i + e) t
theorem take_while_take {p : UInt8 → Bool} : ∀ (w : List UInt8), w.take (w.takeWhile p).length = w.takeWhile p
  | [] => rfl
  | c :: w => by
    rw [List.takeWhile_cons]
    split
    · rw [List.length_cons, List.take_succ_cons, take_while_take w]
    · rfl
theorem lex_drop (src : List UInt8) (i : Nat) (hi : i < src.length) (r : Int) : lexOne src i r = (lexS (src.drop i) i r).map (LexR.at i) := by
  have hl : (src.drop i).length = src.length - i := List.length_drop
  unfold lexOne lexS
  rw [show ((src.drop i).drop 1).take 1 = cutS src (i + 1) (min (i + 2) src.length) from by
    unfold cutS
    rw [List.drop_drop, List.drop_take]
    by_cases h : i + 2 ≤ src.length
    · rw [Nat.min_eq_left h, show i + 2 - (i + 1) = 1 from by omega]
    · have h1 : src.length = i + 1 := by omega
      rw [List.drop_eq_nil_of_le (by omega)]
      simp]
  simp only [mapite]
  congr 1
  congr 1
  congr 1
  · unfold wordAt
    rw [runF_drop]
    have e : ((i + ((src.drop i).takeWhile wordM).length : Nat) : Int) - i = (((src.drop i).takeWhile wordM).length : Int) := by omega
    rw [e, cut_drop, take_while_take]
    split <;> rfl
  congr 1
  · unfold numAt
    rw [numberM_drop, cut_drop]
    cases parseM ((src.drop i).take (numS (src.drop i))) with
    | none => rfl
    | some z => rfl
  congr 1
  · unfold strAt
    dsimp only
    rw [runF_drop]
    have hd : src.drop (i + 1) = (src.drop i).drop 1 := by rw [List.drop_drop]
    rw [hd]
    obtain ⟨L, hL⟩ : ∃ L, L = ((src.drop i).drop 1).takeWhile (untilP 34) := ⟨_, rfl⟩
    rw [← hL]
    have g : src.getD (i + 1 + L.length + 1 - 1) 0 = (src.drop i).getD (L.length + 1) 0 := by
      rw [List.getD_eq_getElem?_getD, List.getD_eq_getElem?_getD, List.getElem?_drop]
      congr 2
      omega
    have c1 : cutS src (i + 1) (i + 1 + L.length + 1 - 1) = L := by
      rw [show i + 1 + L.length + 1 - 1 = i + 1 + L.length from by omega, cut_drop, hd]
      conv => lhs; rw [hL]
      rw [take_while_take, ← hL]
    rw [g, c1]
    have hc : (i + 1 + L.length + 1 ≤ src.length ∧ (((src.drop i).getD (L.length + 1) 0).toNat : Int) = 34 ∧ ((i + 1 + L.length + 1 : Nat) : Int) - i - 2 ≤ 40) ↔ (L.length + 2 ≤ (src.drop i).length ∧ (((src.drop i).getD (L.length + 1) 0).toNat : Int) = 34 ∧ (L.length : Int) ≤ 40) := by
      rw [hl]
      constructor
      · rintro ⟨a, b, c⟩; exact ⟨by omega, b, by omega⟩
      · rintro ⟨a, b, c⟩; exact ⟨by omega, b, by omega⟩
    have e : i + 1 + L.length + 1 = i + (L.length + 2) := by omega
    by_cases h : (L.length + 2 ≤ (src.drop i).length ∧ (((src.drop i).getD (L.length + 1) 0).toNat : Int) = 34 ∧ (L.length : Int) ≤ 40)
    · rw [if_pos (hc.2 h), if_pos h, e]
      rfl
    · rw [if_neg (fun z => h (hc.1 z)), if_neg h, e]
      rfl
  unfold signAt
  cases twinOf r with
  | none => rfl
  | some tw =>
    dsimp only
    have g : src.getD (i + 1) 0 = (src.drop i).getD 1 0 := by
      rw [List.getD_eq_getElem?_getD, List.getD_eq_getElem?_getD, List.getElem?_drop]
    rw [g, cut_drop]
    have hc : (i + 1 < src.length ∧ (((src.drop i).getD 1 0).toNat : Int) = tw) ↔ (1 < (src.drop i).length ∧ (((src.drop i).getD 1 0).toNat : Int) = tw) := by
      rw [hl]
      constructor
      · rintro ⟨a, b⟩; exact ⟨by omega, b⟩
      · rintro ⟨a, b⟩; exact ⟨by omega, b⟩
    by_cases h : (1 < (src.drop i).length ∧ (((src.drop i).getD 1 0).toNat : Int) = tw)
    · rw [if_pos (hc.2 h), if_pos h]
      rfl
    · rw [if_neg (fun z => h (hc.1 z)), if_neg h]
      rfl
end Go.Wl
