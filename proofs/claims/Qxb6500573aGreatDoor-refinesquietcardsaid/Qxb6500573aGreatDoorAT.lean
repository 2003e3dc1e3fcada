/- Plain: package table, as it lies. -/
import Derived.Test.Qxb6500573aGreatDoorWNumD
import Derived.Test.Qxb6500573aGreatDoorFactsN
import Derived.Test.Qxb6500573aGreatDoorSlW
namespace Go.Wl
open Go Go.Sl Go.Proofs
set_option linter.unusedVariables false
structure Tb where
  order : List (V × V)
  arr : List Int
  nums : List (Int × Int)
  strs : List (List UInt8 × Int)
  refs : List (Int × Int)
  dead : Int
def Tb.empty : Tb := ⟨[], [], [], [], [], 0⟩
def i32V (i : Int) : Value := .int .i32 i
def u64K (i : Int) : Value := .int .u64 i
def entV (e : V × V) : List Value := valV e.1 ++ valV e.2
theorem entV_len (e : V × V) : (entV e).length = 6 := rfl
def tabR (t : Tb) (c : List Value) (s : Seg) : Prop :=
  ∃ oa oc aa ac nb sb rb so sa sn ss sr, c = [.slice oa t.order.length oc, .slice aa t.arr.length ac, .map (some nb), .map (some sb), .map (some rb), I t.dead] ∧ s = List.flatten [so, sa, sn, ss, sr] ∧
    Arr 257 6 oa t.order.length oc (t.order.flatMap entV) so ∧ Arr 21 1 aa t.arr.length ac (t.arr.map i32V) sa ∧ isMap u64K i32V nb t.nums sn ∧ isMap S i32V sb t.strs ss ∧ isMap u64K i32V rb t.refs sr
theorem tabR_len (t : Tb) (c : List Value) (s : Seg) (h : tabR t c s) : c.length = 6 := by
  obtain ⟨oa, oc, aa, ac, nb, sb, rb, so, sa, sn, ss, sr, rfl, _⟩ := h; rfl
theorem kU : KOk Tryz.prog 40 u64K := KOk.int Tryz.underlying40
theorem kS : KOk Tryz.prog 9 S := KOk.str Tryz.underlying9
/-- All tables: live ones and wiped ones behind them. -/
def isTabs (b nb : Nat) (ts : List Tb) (s : Seg) : Prop :=
  ∃ ta tc k cs st sa, s = List.flatten [blk b 103 [.pointer (some ⟨nb, 0, none⟩), .slice ta (ts.length + k) tc, I ts.length], sa, st] ∧ Arr 245 6 ta (ts.length + k) tc cs sa ∧ Rws tabR (ts ++ List.replicate k Tb.empty) cs st ∧ ts.length + k ≤ 12
def packM (v : V) : Int := bitI .or .u64 (IntKind.u64.wrap (IntKind.u64.wrap v.t * 4294967296)) v.n
def isNilV (v : V) : Bool := decide (v = V.nil)
/-- Tabs.one. -/
def oneV (k : V) : Option (V × Int) :=
  if k.t ≠ 2 then some (k, 0)
  else match toIntM k.n.toNat with
    | none => none
    | some (i, whole) => if whole = false then some (k, 0) else some (if i = 0 then { k with n := 0 } else k, i)
def findO (o : Option Int) : Int := match o with
  | some p => IntKind.i64.wrap p
  | none => -1
def Tb.find (t : Tb) (k : V) (i : Int) : Int :=
  if 1 ≤ i ∧ i ≤ t.arr.length then IntKind.i64.wrap (t.arr.getD (i - 1).toNat 0)
  else if k.t = 2 then findO (mfind t.nums k.n)
  else if k.t = 3 then findO (mfind t.strs k.s)
  else findO (mfind t.refs (packM k))
/-- tab.turn: the place's value. -/
def Tb.turn (t : Tb) (p : Nat) (v : V) : Tb :=
  let was := isNilV (t.order.getD p (V.nil, V.nil)).2
  let now := isNilV v
  { t with order := t.order.set p ((t.order.getD p (V.nil, V.nil)).1, v), dead := if was = true ∧ now = false then t.dead - 1 else if now = true ∧ was = false then t.dead + 1 else t.dead }
def Tb.index (t : Tb) (k : V) (p : Int) : Option Tb :=
  if k.t = 2 then (if mfind t.nums k.n = none then some { t with nums := t.nums ++ [(k.n, p)] } else none)
  else if k.t = 3 then (if mfind t.strs k.s = none then some { t with strs := t.strs ++ [(k.s, p)] } else none)
  else (if mfind t.refs (packM k) = none then some { t with refs := t.refs ++ [(packM k, p)] } else none)
end Go.Wl
