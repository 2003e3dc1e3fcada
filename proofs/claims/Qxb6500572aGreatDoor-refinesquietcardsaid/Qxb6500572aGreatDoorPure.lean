/- The plain data and functions of the program (no Go in sight). -/
namespace Go.Wl

structure Ins where
  op : Int
  imm : Int
  tab : List UInt8
structure Fn where
  typ : Int
  locals : List UInt8
  code : List Ins
structure Mod where
  params : List (List UInt8)
  results : List (List UInt8)
  imports : List Int
  min : Int
  max : Int
  funcs : List Fn

def Mod.empty : Mod := ⟨[], [], [], 0, 0, []⟩
def isTy (c : UInt8) : Bool := c == 105 || c == 108
def types (s : List UInt8) : Bool := s.all isTy
theorem isTy_iff (c : UInt8) : isTy c = true ↔ ((c.toNat : Int) = 105 ∨ (c.toNat : Int) = 108) := by
  have h1 : (c = 105) ↔ ((c.toNat : Int) = 105) := by
    rw [← UInt8.toNat_inj]; simp; omega
  have h2 : (c = 108) ↔ ((c.toNat : Int) = 108) := by
    rw [← UInt8.toNat_inj]; simp; omega
  simp [isTy, h1, h2]
theorem types_succ {s : List UInt8} {k : Nat} (h : k < s.length) (ht : types (s.take k) = true) (hc : isTy s[k] = true) : types (s.take (k + 1)) = true := by
  have e := List.take_succ_eq_append_getElem h
  unfold types at *
  rw [e, List.all_append, ht]
  simp [hc]
theorem types_no {s : List UInt8} {k : Nat} (h : k < s.length) (hc : ¬ isTy s[k] = true) : types s = false := by
  cases ht : types s with
  | false => rfl
  | true =>
    simp only [types, List.all_eq_true] at ht
    exact absurd (ht _ (List.getElem_mem h)) hc
def addType (m : Mod) (ps rs : List UInt8) : Mod × Int :=
  if 3 < ps.length ∨ 1 < rs.length then (m, 1)
  else if 4 ≤ m.params.length then (m, 2)
  else if types (ps ++ rs) then ({ m with params := m.params ++ [ps], results := m.results ++ [rs] }, 0)
  else (m, 3)
def addImport (m : Mod) (t : Int) : Mod × Int :=
  if 2 ≤ m.imports.length then (m, 2)
  else if t < 0 ∨ 4294967295 < t then (m, 3)
  else ({ m with imports := m.imports ++ [t] }, 0)
def setMem (m : Mod) (lo hi : Int) : Mod × Int :=
  if lo < 0 ∨ hi < lo ∨ 4 < hi then (m, 7) else ({ m with min := lo, max := hi }, 0)
def wellP (op imm : Int) (n : Nat) : Prop :=
  op = 8 ∧ imm = 0 ∧ 1 ≤ n ∧ n ≤ 5 ∨ op ≠ 8 ∧ n = 0 ∧
    ((op = 1 ∨ op = 2 ∨ op = 3) ∧ (imm = 0 ∨ imm = 105 ∨ imm = 108) ∨
     (op = 6 ∨ op = 7 ∨ op = 10 ∨ op = 13 ∨ op = 14) ∧ 0 ≤ imm ∧ imm ≤ 4294967295 ∨
     op = 17 ∧ -2147483648 ≤ imm ∧ imm < 2147483648 ∨ op = 18 ∨
     19 ≤ op ∧ op ≤ 28 ∧ 0 ≤ imm ∧ imm ≤ 4294967295 ∨
     imm = 0 ∧ (op = 0 ∨ op = 4 ∨ op = 5 ∨ op = 9 ∨ op = 11 ∨ op = 12 ∨ op = 15 ∨ op = 16 ∨ 29 ≤ op ∧ op ≤ 33 ∨ 40 ≤ op ∧ op < 56 ∨ 60 ≤ op ∧ op < 76))
theorem wellP_dec (op imm : Int) (n : Nat) : Nonempty (Decidable (wellP op imm n)) := ⟨by unfold wellP; exact inferInstance⟩
def well (c : Ins) : Bool := @decide (wellP c.op c.imm c.tab.length) (by unfold wellP; exact inferInstance)
def nest : List Ins → List Int → Int
  | [], _ => 3
  | c :: rest, o =>
    if well c then
      if c.op = 1 ∨ c.op = 2 ∨ c.op = 3 then (if 4 ≤ o.length then 4 else nest rest (o ++ [c.op]))
      else if c.op = 4 then (if o.getLast? = some 3 then nest rest (o.dropLast ++ [4]) else 3)
      else if c.op = 5 then (if o = [] then (if rest = [] then 0 else 3) else nest rest o.dropLast)
      else nest rest o
    else 3
theorem nest_bad {code : List Ins} {k : Nat} {o : List Int} (h : k < code.length) (hw : well code[k] = false) : nest (code.drop k) o = 3 := by
  rw [List.drop_eq_getElem_cons h]; simp [nest, hw]
theorem nest_deep {code : List Ins} {k : Nat} {o : List Int} (h : k < code.length) (hw : well code[k] = true) (hop : code[k].op = 1 ∨ code[k].op = 2 ∨ code[k].op = 3) (ho : 4 ≤ o.length) : nest (code.drop k) o = 4 := by
  rw [List.drop_eq_getElem_cons h]; simp only [nest]; rw [if_pos hw, if_pos hop, if_pos ho]
theorem nest_push {code : List Ins} {k : Nat} {o : List Int} (h : k < code.length) (hw : well code[k] = true) (hop : code[k].op = 1 ∨ code[k].op = 2 ∨ code[k].op = 3) (ho : ¬ 4 ≤ o.length) : nest (code.drop k) o = nest (code.drop (k + 1)) (o ++ [code[k].op]) := by
  rw [List.drop_eq_getElem_cons h]; simp only [nest]; rw [if_pos hw, if_pos hop, if_neg ho]
theorem last_of {o : List Int} (h : 0 < o.length) : o.getLast? = some (o[o.length - 1]) := by
  rw [List.getLast?_eq_getElem?]; simp [List.getElem?_eq_getElem (show o.length - 1 < o.length by omega)]
theorem nest_else {code : List Ins} {k : Nat} {o : List Int} (h : k < code.length) (hw : well code[k] = true) (hop : code[k].op = 4) (ho : 0 < o.length) (hl : o[o.length - 1] = 3) : nest (code.drop k) o = nest (code.drop (k + 1)) (o.dropLast ++ [4]) := by
  rw [List.drop_eq_getElem_cons h]; simp only [nest]; rw [if_pos hw, if_neg (by omega), if_pos hop, if_pos (by rw [last_of ho, hl])]
theorem nest_elseBad {code : List Ins} {k : Nat} {o : List Int} (h : k < code.length) (hw : well code[k] = true) (hop : code[k].op = 4) (hl : ∀ h : 0 < o.length, o[o.length - 1] ≠ 3) : nest (code.drop k) o = 3 := by
  rw [List.drop_eq_getElem_cons h]; simp only [nest]; rw [if_pos hw, if_neg (by omega), if_pos hop, if_neg]
  intro he
  cases o with
  | nil => simp at he
  | cons x l => rw [last_of (by simp)] at he; exact hl (by simp) (by simpa using he)
theorem nest_end {code : List Ins} {k : Nat} (h : k < code.length) (hw : well code[k] = true) (hop : code[k].op = 5) : nest (code.drop k) [] = if k + 1 = code.length then 0 else 3 := by
  rw [List.drop_eq_getElem_cons h]; simp only [nest]; rw [if_pos hw, if_neg (by omega), if_neg (by omega), if_pos hop, if_pos trivial]
  by_cases e : k + 1 = code.length
  · rw [if_pos e, if_pos (by rw [List.drop_eq_nil_of_le (by omega)])]
  · rw [if_neg e, if_neg]; intro he; have := congrArg List.length he; simp at this; omega
theorem nest_pop {code : List Ins} {k : Nat} {o : List Int} (h : k < code.length) (hw : well code[k] = true) (hop : code[k].op = 5) (ho : 0 < o.length) : nest (code.drop k) o = nest (code.drop (k + 1)) o.dropLast := by
  rw [List.drop_eq_getElem_cons h]; simp only [nest]; rw [if_pos hw, if_neg (by omega), if_neg (by omega), if_pos hop, if_neg (by intro e; subst e; simp at ho)]
theorem nest_step {code : List Ins} {k : Nat} {o : List Int} (h : k < code.length) (hw : well code[k] = true) (h1 : code[k].op ≠ 1) (h2 : code[k].op ≠ 2) (h3 : code[k].op ≠ 3) (h4 : code[k].op ≠ 4) (h5 : code[k].op ≠ 5) : nest (code.drop k) o = nest (code.drop (k + 1)) o := by
  rw [List.drop_eq_getElem_cons h]; simp only [nest]; rw [if_pos hw, if_neg (by omega), if_neg (by omega), if_neg (by omega)]
theorem nest_nil {code : List Ins} {k : Nat} {o : List Int} (h : code.length ≤ k) : nest (code.drop k) o = 3 := by rw [List.drop_eq_nil_of_le h]; rfl
def addFunc (m : Mod) (t : Int) (ls : List UInt8) (code : List Ins) : Mod × Int :=
  if 4 < ls.length ∨ 24 < code.length then (m, 1)
  else if 4 ≤ m.funcs.length then (m, 2)
  else if t < 0 ∨ 4294967295 < t ∨ types ls = false then (m, 3)
  else if nest code [] ≠ 0 then (m, nest code [])
  else ({ m with funcs := m.funcs ++ [⟨t, ls, code⟩] }, 0)
def Mod.type (m : Mod) (i : Int) : List UInt8 × List UInt8 := if i < 0 ∨ m.params.length ≤ i then ([], []) else (m.params.getD i.toNat [], m.results.getD i.toNat [])
def Mod.imq (m : Mod) (i : Int) : Int := if i < 0 ∨ m.imports.length ≤ i then -1 else m.imports.getD i.toNat 0
def Mod.func (m : Mod) (i : Int) : Int × List UInt8 × Int := if i < 0 ∨ m.funcs.length ≤ i then (-1, [], 0) else match m.funcs[i.toNat]? with
  | some f => (f.typ, f.locals, f.code.length)
  | none => (-1, [], 0)
def Mod.at (m : Mod) (f i : Int) : Ins := match (if 0 ≤ f then m.funcs[f.toNat]? else none) with
  | some fn => (match (if 0 ≤ i then fn.code[i.toNat]? else none) with
    | some c => c
    | none => ⟨-1, 0, []⟩)
  | none => ⟨-1, 0, []⟩
/-! Numbers in decimal. -/
def digs : Nat → Nat → List UInt8
  | 0, _ => []
  | f + 1, u => if u = 0 then [] else digs f (u / 10) ++ [UInt8.ofNat (48 + u % 10)]
theorem digs_zero (f : Nat) : digs f 0 = [] := by cases f <;> simp [digs]
theorem digs_len : ∀ (f u : Nat), (digs f u).length ≤ f
  | 0, _ => by simp [digs]
  | f + 1, u => by
    simp only [digs]
    split
    · simp
    · have := digs_len f (u / 10); simp; omega
def numS (n : Int) : List UInt8 := if n = 0 then [48, 32] else (if n < 0 then [45] else []) ++ digs 20 n.natAbs ++ [32]
def num (s : List UInt8) (n : Int) : List UInt8 := s ++ numS n
theorem numS_len (n : Int) : (numS n).length ≤ 22 := by
  have := digs_len 20 n.natAbs
  unfold numS
  split
  · simp
  · split <;> simp <;> omega
theorem num_len (s : List UInt8) (n : Int) : (num s n).length ≤ s.length + 22 := by
  have := numS_len n
  simp [num]; omega
structure Val where
  t : UInt8
  v : Int
def valsS (l : List Val) : List UInt8 := (l.take 4).flatMap fun x => [x.t] ++ numS x.v
end Go.Wl
