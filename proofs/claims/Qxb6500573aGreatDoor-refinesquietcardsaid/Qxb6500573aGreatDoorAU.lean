/- Plain: package table, all tables. -/
import Derived.Test.Qxb6500573aGreatDoorWTab
import Derived.Test.Qxb6500573aGreatDoorSlMr
namespace Go.Wl
open Go Go.Sl Go.Proofs
set_option linter.unusedVariables false
theorem isTabs_open {b nb : Nat} {ts : List Tb} {s : Seg} (h : isTabs b nb ts s) {i : Nat} (hi : i < ts.length) :
    ∃ tb tl tc c0 ci c2 s0 si s2, s = List.flatten [blk b 103 [.pointer (some ⟨nb, 0, none⟩), .slice (some ⟨tb, 0, none⟩) tl tc, I ts.length], blk tb 245 (c0 ++ ci ++ c2), s0, si, s2] ∧ c0.length = 0 + ((i : Nat) : Int).toNat * 6 ∧ i < tl ∧ tabR ts[i] ci si ∧
      (∀ t' c' s', tabR t' c' s' → isTabs b nb (ts.set i t') (List.flatten [blk b 103 [.pointer (some ⟨nb, 0, none⟩), .slice (some ⟨tb, 0, none⟩) tl tc, I ts.length], blk tb 245 (c0 ++ c' ++ c2), s0, s', s2])) := by
  obtain ⟨ta, tc, k, cs, st, sa, rfl, ha, hr, hk12⟩ := h
  obtain ⟨tb, tsp, rfl, htc, hsp, rfl⟩ := ha.row (by omega)
  have hi' : i < (ts ++ List.replicate k Tb.empty).length := by simp; omega
  obtain ⟨c0, ci, c2, s0, si, s2, rfl, rfl, h3, h4, h5, h6⟩ := hr.split tabR_len hi'
  have e : (ts ++ List.replicate k Tb.empty)[i] = ts[i] := List.getElem_append_left hi
  rw [e] at h5
  refine ⟨tb, ts.length + k, tc, c0, ci, c2 ++ tsp, s0, si, s2, by simp, by simp [h3], by omega, h5, fun t' c' s' ht => ?_⟩
  refine ⟨some ⟨tb, 0, none⟩, tc, k, c0 ++ c' ++ c2, List.flatten [s0, s', s2], blk tb 245 (c0 ++ c' ++ c2 ++ tsp), by simp, ?_, ?_, by rw [List.length_set]; exact hk12⟩
  · rw [List.length_set]
    refine Arr.mk ?_ htc hsp
    have := ha.1
    have h7 := tabR_len _ _ _ ht
    simp only [List.length_append] at this ⊢
    omega
  · have := h6 t' c' s' ht
    rwa [List.set_append_left _ _ hi] at this
/-- The index of a number key that may move; 0: none. -/
def cand (n : Nat) (x : Int) : Int := match toIntM x.toNat with
  | some (i, true) => if (n : Int) < i ∧ i ≤ 32 then i else 0
  | _ => 0
def atS (n : Nat) (a : List Int) (e : Int × Int) : List Int := if cand n e.1 = 0 then a else a.set (cand n e.1).toNat (e.2 + 1)
def atL (n : Nat) (l : List (Int × Int)) : List Int := l.foldl (atS n) (List.replicate 33 0)
def injB (n : Nat) (l : List (Int × Int)) : Bool := l.all fun e => l.all fun e' => decide (cand n e.1 = cand n e'.1 → cand n e.1 ≠ 0 → e = e')
def numsOk (l : List (Int × Int)) : Bool := l.all fun e => decide (0 ≤ e.1 ∧ 0 ≤ e.2 ∧ e.2 ≤ 1000000) && (toIntM e.1.toNat).isSome
def movL (a : List Int) : Nat → Tb → Option Tb
  | 0, _ => none
  | k + 1, t => if t.arr.length + 1 ≤ 32 then (if a.getD (t.arr.length + 1) 0 ≠ 0 then
      (if 0 ≤ a.getD (t.arr.length + 1) 0 - 1 ∧ a.getD (t.arr.length + 1) 0 - 1 < t.order.length then
        movL a k { t with nums := mdel t.nums (t.order.getD (a.getD (t.arr.length + 1) 0 - 1).toNat (V.nil, V.nil)).1.n, arr := t.arr ++ [a.getD (t.arr.length + 1) 0 - 1] } else none) else some t) else some t
/-- migrate: the whole keys that follow the array part's end move into it. -/
def migM (t : Tb) : Option Tb := if t.nums = [] then some t else if numsOk t.nums = true ∧ injB t.arr.length t.nums = true ∧ t.order.length ≤ 1000 ∧ t.arr.length ≤ 1000 then movL (atL t.arr.length t.nums) 34 t else none
/-- Tabs.Set. -/
def setT (t : Tb) (k v : V) (i : Int) : Option (Tb × Int) :=
  let p := t.find k i
  if 0 ≤ p then (if p < t.order.length ∧ t.order.length ≤ 1000 ∧ -1000000 ≤ t.dead ∧ t.dead ≤ 1000000 then some (t.turn p.toNat v, 0) else none)
  else if isNilV v = true then some (t, 0)
  else if 32 ≤ t.order.length then some (t, 8)
  else if 1000 ≤ t.arr.length then none
  else if i ≠ t.arr.length + 1 then (Tb.index { t with order := t.order ++ [(k, v)] } k t.order.length).map fun t2 => (t2, 0)
  else (migM { t with order := t.order ++ [(k, v)], arr := t.arr ++ [(t.order.length : Int)] }).map fun t2 => (t2, 0)
def setM (ts : List Tb) (h : Int) (k v : V) : Option (List Tb × Int) :=
  if h < 0 ∨ ts.length ≤ h then some (ts, 3)
  else if well k = false ∨ well v = false then some (ts, 4)
  else if k.t = 0 then some (ts, 5)
  else if k.t = 2 ∧ cmpM 2 k.n.toNat k.n.toNat = true then some (ts, 6)
  else match oneV k with
    | none => none
    | some (k2, i) => if -9223372036854775808 ≤ i ∧ i ≤ 9223372036854775807 then (setT (ts.getD h.toNat Tb.empty) k2 v i).map fun r => (ts.set h.toNat r.1, r.2) else none
def getM (ts : List Tb) (h : Int) (k : V) : Option (V × Int) :=
  if h < 0 ∨ ts.length ≤ h then some (V.nil, 3)
  else if well k = false then some (V.nil, 4)
  else match oneV k with
    | none => none
    | some (k2, i) =>
      if -9223372036854775808 ≤ i ∧ i ≤ 9223372036854775807 then
        (let t := ts.getD h.toNat Tb.empty
        let p := t.find k2 i
        if p < 0 then some (V.nil, 0)
        else if p < t.order.length then some ((t.order.getD p.toNat (V.nil, V.nil)).2, 0) else none)
      else none
/-- The first live place from p on. -/
def liveF : List (V × V) → Option (V × V)
  | [] => none
  | e :: l => if isNilV e.2 = true then liveF l else some e
def nextM (ts : List Tb) (h : Int) (k : V) : Option (V × V × Int) :=
  if h < 0 ∨ ts.length ≤ h then some (V.nil, V.nil, 3)
  else if well k = false then some (V.nil, V.nil, 4)
  else
    let t := ts.getD h.toNat Tb.empty
    let fin := fun (p : Int) => if -1 ≤ p ∧ p ≤ t.order.length ∧ t.order.length ≤ 1000 then (match liveF (t.order.drop (p + 1).toNat) with
      | some e => some (e.1, e.2, 0)
      | none => some (V.nil, V.nil, 0)) else none
    if k.t ≠ 0 then (match oneV k with
      | none => none
      | some (k2, i) => if -9223372036854775808 ≤ i ∧ i ≤ 9223372036854775807 then (if t.find k2 i < 0 then some (V.nil, V.nil, 7) else fin (t.find k2 i)) else none)
    else fin (-1)
end Go.Wl
