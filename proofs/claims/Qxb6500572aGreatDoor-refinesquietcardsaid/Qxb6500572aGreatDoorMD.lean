/- The model's run: plain. Where the Go function would be stuck, the plain one says nothing. -/
import Derived.Test.Qxb6500572aGreatDoorWPmJ
import Derived.Test.Qxb6500572aGreatDoorPVmB
import Derived.Test.Qxb6500572aGreatDoorWMmB
namespace Go.Wl
open Go Go.Sl
set_option linter.unusedVariables false
structure RS where
  st : List W
  used : Int
  n : Int
  asked : Nat
  trace : List UInt8
  mem : Mem
structure RE where
  P : Prog
  src : List (List Ins)
  fuel : Int
  host : Bool
  tape : List UInt8
def RS.tick (R : RS) : RS := { R with n := IntKind.i64.wrap (R.n + 1) }
def RS.pay (R : RS) : RS := { R.tick with used := R.used + 1 }
/-- br (-1: fell; -2: returns), error, state, locals. -/
abbrev RR := Int × Int × RS × List W
/-- What a plain instruction computes. -/
def unitP (m : Mem) (op imm a b : Int) : Mem × Int × Int :=
  if op = 15 then (m, (m.bytes.length / 8 : Nat), 0)
  else if op = 16 then ((grow m a).1, (grow m a).2, 0)
  else if op = 17 ∨ op = 18 then (m, imm, 0)
  else if 19 ≤ op ∧ op ≤ 24 then (m, (mload m op a imm).1, (mload m op a imm).2)
  else if 25 ≤ op ∧ op ≤ 28 then ((mstore m op a imm b).1, 0, (mstore m op a imm b).2)
  else (m, (alu op a b).1, (alu op a b).2)
def tw (t : UInt8) : Bool := decide (t = 108)
def topW (st : List W) (k : Nat) : List W := st.drop (st.length - k)
def cutW (st : List W) (k : Nat) : List W := st.take (st.length - k)
/-- A plain instruction, the types of whose operands are known to fit. -/
def plainP (R : RS) (c : Ins) : Option (Int × RS) :=
  if (sigM c.op).1.length ≤ R.st.length ∧ (topW R.st (sigM c.op).1.length).map W.t = (sigM c.op).1 then
    let args := topW R.st (sigM c.op).1.length
    let r := unitP R.mem c.op c.imm (args.getD 0 ⟨false, 0⟩).n (args.getD 1 ⟨false, 0⟩).n
    some (r.2.2, { R with st := cutW R.st (sigM c.op).1.length ++ (if r.2.2 = 0 then (sigM c.op).2.1.map (fun t => ⟨tw t, r.2.1⟩) else []), mem := r.1 })
  else none
/-- A host's answer. -/
def askP (E : RE) (R : RS) (g : Int) : Option (Int × RS) :=
  if (E.P.sig g).1.length ≤ R.st.length ∧ (topW R.st (E.P.sig g).1.length).map W.t = (E.P.sig g).1 then
    let args := topW R.st (E.P.sig g).1.length
    let R1 := { R with st := cutW R.st (E.P.sig g).1.length }
    if E.host = false then some (15, R1)
    else
      let R2 := { R1 with trace := R.trace ++ [104] ++ numS g ++ valsS (args.map W.val), asked := R.asked + 1 }
      let a := answer E.tape R.asked
      if a.2 ≠ 0 then some (a.2, R2)
      else if fitsAll a.1 (E.P.sig g).2.1 = false then some (15, R2)
      else some (0, { R2 with st := R2.st ++ a.1.map (fun v => ⟨tw v.t, v.v⟩) })
  else none
/-- The paid instructions that open no block and call nothing; the fuel is paid. -/
def stepP (R : RS) (loc : List W) (c : Ins) : Option RR :=
  if c.op = 0 then some (-1, 13, R, loc)
  else if c.op = 6 then some (c.imm, 0, R, loc)
  else if c.op = 7 then
    (if 1 ≤ R.st.length ∧ (lst R.st).w = false then some (if (lst R.st).n ≠ 0 then c.imm else -1, 0, { R with st := R.st.dropLast }, loc) else none)
  else if c.op = 8 then
    (if 1 ≤ R.st.length ∧ (lst R.st).w = false then some ((c.tab.getD (min ((lst R.st).n % 4294967296) ((c.tab.length : Int) - 1)).toNat 0).toNat, 0, { R.tick with st := R.st.dropLast }, loc) else none)
  else if c.op = 9 then some (-2, 0, R, loc)
  else if c.op = 11 then (if 1 ≤ R.st.length then some (-1, 0, { R with st := R.st.dropLast }, loc) else none)
  else if c.op = 12 then
    (if 3 ≤ R.st.length ∧ (lst R.st).w = false ∧ (lst R.st.dropLast).w = (lst R.st.dropLast.dropLast).w then
      some (-1, 0, { R with st := R.st.dropLast.dropLast.dropLast ++ [if (lst R.st).n = 0 then lst R.st.dropLast else lst R.st.dropLast.dropLast] }, loc)
     else none)
  else if c.op = 13 then (if c.imm < loc.length then some (-1, 0, { R with st := R.st ++ [loc.getD c.imm.toNat ⟨false, 0⟩] }, loc) else none)
  else if c.op = 14 then
    (if c.imm < loc.length ∧ 1 ≤ R.st.length ∧ (lst R.st).w = (loc.getD c.imm.toNat ⟨false, 0⟩).w then some (-1, 0, { R with st := R.st.dropLast }, loc.set c.imm.toNat (lst R.st)) else none)
  else (plainP R c).map fun r => (-1, r.1, r.2, loc)
structure Tsk where
  src : List Ins
  i : Nat
  loop : Bool
  op : Int
  h : Nat
  keep : Nat
  depth : Int
/-- The stack small enough, and what the call's end asks. -/
def invP (E : RE) (rec : Tsk → RS → List W → Option RR) (R : RS) (f depth : Int) : Option (Int × RS) :=
  if (E.P.sig f).1.length ≤ R.st.length ∧ (topW R.st (E.P.sig f).1.length).map W.t = (E.P.sig f).1 ∧ E.P.nimp ≤ f ∧ f - E.P.nimp < E.src.length then
    (rec ⟨E.src.getD (f - E.P.nimp).toNat [], 0, false, 0, 0, 0, depth⟩ { R with st := cutW R.st (E.P.sig f).1.length } (topW R.st (E.P.sig f).1.length ++ (E.P.sig f).2.2.1.map (fun t => word t 0))).bind fun r =>
      if r.2.1 ≠ 0 then some (r.2.1, r.2.2.1)
      else if 0 < r.1 then none
      else
        let R1 := if r.1 = -2 then r.2.2.1 else r.2.2.1.tick
        if R.st.length - (E.P.sig f).1.length + (E.P.sig f).2.1.length ≤ R1.st.length ∧ R1.st.length ≤ 1000000 ∧ (topW R1.st (E.P.sig f).2.1.length).map W.t = (E.P.sig f).2.1 then
          some (0, { R1 with st := R1.st.take (R.st.length - (E.P.sig f).1.length) ++ topW R1.st (E.P.sig f).2.1.length })
        else none
  else none
def stepM (E : RE) (rec : Tsk → RS → List W → Option RR) (R : RS) (loc : List W) (c : Ins) (depth : Int) : Option RR :=
  if E.fuel ≤ R.used then some (-1, 17, R.tick, loc)
  else if c.op = 10 then
    (if c.imm < E.P.nimp then (askP E R.pay c.imm).map fun r => (-1, r.1, r.2, loc)
     else if 4 ≤ depth then some (-1, 14, R.pay, loc)
     else (invP E rec R.pay c.imm (depth + 1)).map fun r => (-1, r.1, r.2, loc))
  else stepP R.pay loc c
def blockM (E : RE) (rec : Tsk → RS → List W → Option RR) (R : RS) (loc : List W) (src : List Ins) (i : Nat) (c : Ins) (depth : Int) : Option RR :=
  if c.op = 3 then
    (if E.fuel ≤ R.used then some (-1, 17, R.tick, loc)
     else if 1 ≤ R.st.length ∧ (lst R.st).w = false then
      (if (lst R.st).n = 0 then
        (if (ends src i).1 < 0 then some (-1, 0, { R.pay with st := R.st.dropLast }, loc)
         else rec ⟨src, ((ends src i).1 + 1).toNat, true, 3, R.st.length - 1, if c.imm ≠ 0 then 1 else 0, depth⟩ { R.pay with st := R.st.dropLast } loc)
       else rec ⟨src, i + 1, true, 3, R.st.length - 1, if c.imm ≠ 0 then 1 else 0, depth⟩ { R.pay with st := R.st.dropLast } loc)
     else none)
  else rec ⟨src, i + 1, true, c.op, R.st.length, if c.imm ≠ 0 ∧ c.op ≠ 2 then 1 else 0, depth⟩ R loc
/-- What each round leans on. -/
def RS.small (R : RS) : Bool := decide (R.st.length ≤ 1000) && decide (R.trace.length ≤ 100000) && decide (R.asked ≤ 1000000000) && decide (0 ≤ R.used) && R.st.all (fun y => decide (-9223372036854775808 ≤ y.n) && decide (y.n ≤ 9223372036854775807))
structure Small (R : RS) : Prop where
  st : R.st.length ≤ 1000
  tr : R.trace.length ≤ 100000
  ak : R.asked ≤ 1000000000
  us : 0 ≤ R.used
  ok : ∀ y, y ∈ R.st → -9223372036854775808 ≤ y.n ∧ y.n ≤ 9223372036854775807
theorem small_iff (R : RS) : R.small = true ↔ Small R := by
  unfold RS.small
  simp only [Bool.and_eq_true, decide_eq_true_eq, List.all_eq_true]
  constructor
  · rintro ⟨⟨⟨⟨h1, h2⟩, h3⟩, h4⟩, h5⟩; exact ⟨h1, h2, h3, h4, h5⟩
  · rintro ⟨h1, h2, h3, h4, h5⟩; exact ⟨⟨⟨⟨h1, h2⟩, h3⟩, h4⟩, h5⟩
def taskM (E : RE) (rec : Tsk → RS → List W → Option RR) (t : Tsk) (R : RS) (loc : List W) : Option RR :=
  if ¬ R.small then none
  else if t.loop = true then
    (rec { t with loop := false } R loc).bind fun r =>
      if r.2.1 ≠ 0 ∨ r.1 < 0 then some r
      else if 0 < r.1 then (if r.1 ≤ 4294967295 then some (r.1 - 1, r.2) else none)
      else if r.2.2.1.st.length < t.h + t.keep ∨ 1000000 < r.2.2.1.st.length then none
      else if t.op = 2 then rec t { r.2.2.1 with st := r.2.2.1.st.take t.h ++ topW r.2.2.1.st t.keep } r.2.2.2
      else some (-1, 0, { r.2.2.1 with st := r.2.2.1.st.take t.h ++ topW r.2.2.1.st t.keep }, r.2.2.2)
  else match t.src[t.i]? with
    | none => none
    | some c =>
      if c.op = 5 then some (-1, 0, R, loc)
      else if c.op = 4 then some (-1, 0, R.tick, loc)
      else if c.op = 1 ∨ c.op = 2 ∨ c.op = 3 then
        (blockM E rec R loc t.src t.i c t.depth).bind fun r => if r.2.1 ≠ 0 ∨ r.1 ≠ -1 then some r else rec { t with i := ((ends t.src t.i).2 + 1).toNat } r.2.2.1 r.2.2.2
      else (stepM E rec R loc c t.depth).bind fun r => if r.2.1 ≠ 0 ∨ r.1 ≠ -1 then some r else rec { t with i := t.i + 1 } r.2.2.1 r.2.2.2
def runM (E : RE) : Nat → Tsk → RS → List W → Option RR
  | 0, _, _, _ => none
  | n + 1, t, R, loc => taskM E (runM E n) t R loc
end Go.Wl
