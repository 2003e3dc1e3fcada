/- Plain: package num, arithmetic and reading. -/
import Derived.Test.Qxb6500573aGreatDoorWNum
namespace Go.Wl
open Go Go.Sl
set_option linter.unusedVariables false
abbrev nanB : Nat := 9221120237041090561
def bitsM (r : Nat) : Nat := if ford r r ≠ some .eq then nanB else r
def fdiv (a b : Nat) : Option Nat := FloatKind.f64.format.div a b
/-- floor(a / b), where neither is a NaN. -/
def floorDiv (a b : Nat) : Option Nat := match fdiv a b with
  | some q => if isNan (FloatKind.f64.decode q) = false then some (floorF q) else none
  | none => none
def arithM (op : Int) (a b : Nat) : Option Nat :=
  if op = 1 then (FloatKind.f64.format.add a b).map bitsM
  else if op = 2 then (FloatKind.f64.format.sub a b).map bitsM
  else if op = 3 then (FloatKind.f64.format.mul a b).map bitsM
  else if op = 4 then (fdiv a b).map bitsM
  else if op = 5 then (floorDiv a b).map bitsM
  else if op = 6 then (match floorDiv a b with
    | some q => (match FloatKind.f64.format.mul q b with
      | some p => (FloatKind.f64.format.sub a p).map bitsM
      | none => none)
    | none => none)
  else some nanB
def negM (a : Nat) : Nat := bitsM (Op.negFloat .f64 a)
def cmpM (op : Int) (a b : Nat) : Bool :=
  if op = 1 then decide (ford a b = some .eq)
  else if op = 2 then decide (ford a b ≠ some .eq)
  else if op = 3 then decide (ford a b = some .lt)
  else if op = 4 then decide (ford a b = some .lt ∨ ford a b = some .eq)
  else if op = 5 then decide (ford a b = some .gt)
  else if op = 6 then decide (ford a b = some .gt ∨ ford a b = some .eq)
  else false
abbrev ntwo53 : Nat := 14069245235905429504
def inR (x : Nat) : Prop := (ford x ntwo53 = some .gt ∨ ford x ntwo53 = some .eq) ∧ (ford x two53 = some .lt ∨ ford x two53 = some .eq)
instance (x : Nat) : Decidable (inR x) := by unfold inR; exact inferInstance
def toIntM (x : Nat) : Option (Int × Bool) :=
  if inR x then
    (match (FloatKind.f64.decode x).toInt .zero with
     | some i => if -9223372036854775808 ≤ i ∧ i ≤ 9223372036854775807 then (if ford (FloatKind.f64.nearest i) x ≠ some .eq then some (0, false) else some (i, true)) else none
     | none => none)
  else some (0, false)
/-- The digits at the head: the number on top of m, how many, what is left. -/
def runD : List UInt8 → Nat → Nat × Nat × List UInt8
  | [], m => (m, 0, [])
  | c :: l, m => if 48 ≤ c.toNat ∧ c.toNat ≤ 57 then ((runD l ((m * 10 + (c.toNat - 48)) % 18446744073709551616)).1, (runD l ((m * 10 + (c.toNat - 48)) % 18446744073709551616)).2.1 + 1, (runD l ((m * 10 + (c.toNat - 48)) % 18446744073709551616)).2.2) else (m, 0, c :: l)
theorem runD_len : ∀ (l : List UInt8) (m : Nat), (runD l m).2.1 + (runD l m).2.2.length = l.length ∧ (runD l m).2.2 = l.drop (runD l m).2.1
  | [], m => ⟨rfl, rfl⟩
  | c :: l, m => by
    unfold runD
    split
    · have := runD_len l ((m * 10 + (c.toNat - 48)) % 18446744073709551616)
      refine ⟨?_, ?_⟩
      · simp only [List.length_cons]; omega
      · simp only [List.drop_succ_cons]; exact this.2
    · exact ⟨by simp, rfl⟩
theorem runD_lt : ∀ (l : List UInt8) (m : Nat), m < 18446744073709551616 → (runD l m).1 < 18446744073709551616
  | [], m, h => h
  | c :: l, m, h => by
    unfold runD
    split
    · exact runD_lt l _ (Nat.mod_lt _ (by decide))
    · exact h
def bA (a b : Nat) (o : BinOp) : Int := bitI o .u64 a b
/-- math.ldexp, where nothing is a NaN. -/
def ldexpM (f : Nat) (e : Int) : Option Nat :=
  if 18446744073709551616 ≤ f then none
  else if ford f 0 = some .eq then some f
  else if ford (bitI .andNot .u64 f 9223372036854775808).toNat maxFin = some .gt ∨ ford f f ≠ some .eq then some f
  else
    (if ford (bitI .andNot .u64 f 9223372036854775808).toNat 4503599627370496 = some .lt then none else
    let e1 : Int := e + (((f / 2 ^ 52 % 2048 : Nat) : Int) - 1023)
    if e1 < -1075 then (if f < 9223372036854775808 then some 0 else none)
    else if 1023 < e1 then (if ford f 0 ≠ some .lt then some 9218868437227405312 else none)
    else
      let mm := if e1 < -1022 then 4368491638549381120 else 4607182418800017408
      let e2 := if e1 < -1022 then e1 + 53 else e1
      FloatKind.f64.format.mul mm (bitI .or .u64 (bitI .andNot .u64 f 9218868437227405312) ((e2 + 1023) * 4503599627370496)).toNat)
theorem runD_bound : ∀ (l : List UInt8) (m a : Nat), m < 10 ^ a → a + (runD l m).2.1 ≤ 19 → (runD l m).1 < 10 ^ (a + (runD l m).2.1)
  | [], m, a, h, _ => h
  | c :: l, m, a, h, h2 => by
    unfold runD at h2 ⊢
    by_cases hc : 48 ≤ c.toNat ∧ c.toNat ≤ 57
    · rw [if_pos hc] at h2 ⊢
      dsimp only at h2 ⊢
      have hp : 10 ^ (a + 1) ≤ 10 ^ 19 := Nat.pow_le_pow_right (by decide) (by omega)
      have h1 : m * 10 + (c.toNat - 48) < 10 ^ (a + 1) := by rw [Nat.pow_succ]; omega
      have h19 : (10 : Nat) ^ 19 < 18446744073709551616 := by decide
      rw [Nat.mod_eq_of_lt (by omega)] at h2 ⊢
      have := runD_bound l (m * 10 + (c.toNat - 48)) (a + 1) h1 (by omega)
      rwa [show a + 1 + (runD l (m * 10 + (c.toNat - 48))).2.1 = a + ((runD l (m * 10 + (c.toNat - 48))).2.1 + 1) by omega] at this
    · rw [if_neg hc]; exact h
/-- num.magnitude. -/
def magM (s : List UInt8) : Option (Nat × Bool) :=
  if s = [105, 110, 102] then some (9218868437227405312, true)
  else
    let r := runD s 0
    if r.2.1 = 0 ∨ 16 < r.2.1 then some (0, false)
    else match r.2.2 with
      | [] => some (FloatKind.f64.nearest r.1, decide ((r.1 : Int) ≤ 9007199254740992))
      | c :: l =>
        if (c.toNat : Int) = 46 then
          let q := runD l r.1
          if q.2.1 = 0 ∨ q.2.2 ≠ [] ∨ 16 < r.2.1 + q.2.1 ∨ 9007199254740992 < q.1 then some (0, false)
          else (fdiv (FloatKind.f64.nearest q.1) (FloatKind.f64.nearest ((10 ^ q.2.1 : Nat)))).map fun x => (x, true)
        else if (c.toNat : Int) = 112 then
          let down := match l with
            | d :: _ => decide ((d.toNat : Int) = 45)
            | [] => false
          let q := runD (if down then l.drop 1 else l) 0
          if q.2.1 = 0 ∨ 4 < q.2.1 ∨ q.2.2 ≠ [] ∨ 9007199254740992 < r.1 then some (0, false)
          else (ldexpM (FloatKind.f64.nearest r.1) (if down then -(q.1 : Int) else q.1)).map fun x => (x, true)
        else some (0, false)
def parseM (s : List UInt8) : Option (Nat × Int) :=
  if 24 < s.length then some (0, 1)
  else if s = [110, 97, 110] then some (nanB, 0)
  else
    let neg := match s with
      | c :: _ => decide ((c.toNat : Int) = 45)
      | [] => false
    match magM (if neg then s.drop 1 else s) with
    | none => none
    | some (f, ok) => if ok = false then some (0, 2) else some (if neg then Op.negFloat .f64 f else f, 0)
end Go.Wl
