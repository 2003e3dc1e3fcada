/- Plain: package tablem: rows of pairs; how they lie. -/
import Derived.Test.Qxb6500573aGreatDoorWNmG
import Derived.Test.Qxb6500573aGreatDoorTA
namespace Go.Nm
open Go Go.Sl Go.Wl Go.Proofs
set_option linter.unusedVariables false
set_option linter.unusedSimpArgs false
abbrev Row := List (V × V)
def rowR (l : Row) (c : List Value) (s : Seg) : Prop := ∃ ra rc, c = [.slice ra l.length rc] ∧ Arr 199 6 ra l.length rc (l.flatMap entV) s
theorem rowR_len (l : Row) (c : List Value) (s : Seg) (h : rowR l c s) : c.length = 1 := by obtain ⟨ra, rc, rfl, _⟩ := h; rfl
def isTm (b nb : Nat) (ts : List Row) (s : Seg) : Prop :=
  ∃ ta tc cs st sa, s = List.flatten [blk b 134 [.pointer (some ⟨nb, 0, none⟩), .slice ta ts.length tc], sa, st] ∧ Arr 200 1 ta ts.length tc cs sa ∧ Rws rowR ts cs st
theorem isTm_open {b nb : Nat} {ts : List Row} {s : Seg} (h : isTm b nb ts s) {i : Nat} (hi : i < ts.length) :
    ∃ tb tc c0 c2 ra rc s0 si s2, s = List.flatten [blk b 134 [.pointer (some ⟨nb, 0, none⟩), .slice (some ⟨tb, 0, none⟩) ts.length tc], blk tb 200 (c0 ++ [.slice ra ts[i].length rc] ++ c2), s0, si, s2] ∧ c0.length = 0 + ((i : Nat) : Int).toNat * 1 ∧ Arr 199 6 ra ts[i].length rc (ts[i].flatMap entV) si ∧
      (∀ (l' : Row) ra' rc' s' n', l'.length = n' → Arr 199 6 ra' n' rc' (l'.flatMap entV) s' → isTm b nb (ts.set i l') (List.flatten [blk b 134 [.pointer (some ⟨nb, 0, none⟩), .slice (some ⟨tb, 0, none⟩) ts.length tc], blk tb 200 (c0 ++ [.slice ra' n' rc'] ++ c2), s0, s', s2])) := by
  obtain ⟨ta, tc, cs, st, sa, rfl, ha, hr⟩ := h
  obtain ⟨tb, tsp, rfl, htc, hsp, rfl⟩ := ha.row (by omega)
  obtain ⟨c0, ci, c2, s0, si, s2, rfl, rfl, h3, h4, h5, h6⟩ := hr.split rowR_len hi
  obtain ⟨ra, rc, rfl, h7⟩ := h5
  refine ⟨tb, tc, c0, c2 ++ tsp, ra, rc, s0, si, s2, by simp, by simp [h3], h7, fun l' ra' rc' s' n' hn' hl => ?_⟩
  subst hn'
  refine ⟨some ⟨tb, 0, none⟩, tc, c0 ++ [.slice ra' l'.length rc'] ++ c2, List.flatten [s0, s', s2], blk tb 200 (c0 ++ [.slice ra' l'.length rc'] ++ c2 ++ tsp), by simp, ?_, h6 l' _ s' ⟨ra', rc', rfl, hl⟩⟩
  rw [List.length_set]
  refine Arr.mk ?_ htc hsp
  have := ha.1
  simp only [List.length_append, List.length_cons, List.length_nil] at this ⊢
  omega
theorem isTm_head {b nb : Nat} {ts : List Row} {s : Seg} (h : isTm b nb ts s) : ∃ ta tc cs sa st, s = List.flatten [blk b 134 [.pointer (some ⟨nb, 0, none⟩), .slice ta ts.length tc], sa, st] ∧ Arr 200 1 ta ts.length tc cs sa ∧ Rws rowR ts cs st := by
  obtain ⟨ta, tc, cs, st, sa, h1, h2, h3⟩ := h
  exact ⟨ta, tc, cs, sa, st, h1, h2, h3⟩
theorem isTm_nil (b nb : Nat) : isTm b nb [] (List.flatten [blk b 134 [.pointer (some ⟨nb, 0, none⟩), .slice none 0 0]]) :=
  ⟨none, 0, [], [], [], by simp, Arr.nil 200 1, Rws.nil⟩
/-- -0 is the key 0. -/
def normV (k : V) : V := if k.t = 2 ∧ k.n = 9223372036854775808 then { k with n := 0 } else k
def findL : Row → V → Nat → Int
  | [], _, _ => -1
  | e :: l, k, i => if e.1 = k then (i : Int) else findL l k (i + 1)
def findW (l : Row) (k : V) : Int := findL l (normV k) 0
theorem findL_go {l : Row} {k : V} {i : Nat} (hi : i < l.length) (h : ¬ l[i].1 = k) : findL (l.drop i) k i = findL (l.drop (i + 1)) k (i + 1) := by
  rw [List.drop_eq_getElem_cons hi, findL, if_neg h]
theorem findL_hit {l : Row} {k : V} {i : Nat} (hi : i < l.length) (h : l[i].1 = k) : findL (l.drop i) k i = i := by
  rw [List.drop_eq_getElem_cons hi, findL, if_pos h]
theorem findL_end {l : Row} {k : V} {i : Nat} (hi : ¬ i < l.length) : findL (l.drop i) k i = -1 := by
  rw [List.drop_eq_nil_of_le (by omega), findL]
theorem findL_in : ∀ (l : Row) (k : V) (i : Nat), findL l k i = -1 ∨ ((i : Int) ≤ findL l k i ∧ findL l k i < i + l.length)
  | [], k, i => Or.inl rfl
  | e :: l, k, i => by
    unfold findL
    split
    · exact Or.inr ⟨by omega, by simp; omega⟩
    · rcases findL_in l k (i + 1) with h | h
      · exact Or.inl h
      · refine Or.inr ⟨by omega, ?_⟩
        rw [List.length_cons]
        omega
theorem findW_in (l : Row) (k : V) : findW l k = -1 ∨ (0 ≤ findW l k ∧ findW l k < l.length) := by
  have := findL_in l (normV k) 0
  unfold findW
  omega
/-- A number as a key. -/
def nanK (k : V) : Bool := if k.t = 2 then cmpM 2 k.n.toNat k.n.toNat else false
def setR (l : Row) (k v : V) : Row × Int :=
  if 0 ≤ findW l k then (l.set (findW l k).toNat ((l.getD (findW l k).toNat (V.nil, V.nil)).1, v), 0)
  else if v.t = 0 then (l, 0)
  else if 32 ≤ l.length then (l, 8)
  else (l ++ [(normV k, v)], 0)
def setW (ts : List Row) (j : Nat) (k v : V) : List Row × Int :=
  if well k = false ∨ well v = false then (ts, 4)
  else if k.t = 0 then (ts, 5)
  else if nanK k = true then (ts, 6)
  else (ts.set j (setR (ts.getD j []) k v).1, (setR (ts.getD j []) k v).2)
def getR (l : Row) (k : V) : V := if findW l k < 0 then V.nil else (l.getD (findW l k).toNat (V.nil, V.nil)).2
def getW (ts : List Row) (j : Nat) (k : V) : V × Int := if well k = false then (V.nil, 4) else (getR (ts.getD j []) k, 0)
/-- The first live pair from place i on. -/
def liveL : Row → V × V
  | [] => (V.nil, V.nil)
  | e :: l => if e.2.t ≠ 0 then e else liveL l
def nextR (l : Row) (k : V) : V × V × Int :=
  if k.t ≠ 0 then (if findW l k < 0 then (V.nil, V.nil, 7) else ((liveL (l.drop ((findW l k).toNat + 1))).1, (liveL (l.drop ((findW l k).toNat + 1))).2, 0))
  else ((liveL l).1, (liveL l).2, 0)
def nextW (ts : List Row) (j : Nat) (k : V) : V × V × Int := if well k = false then (V.nil, V.nil, 4) else nextR (ts.getD j []) k
def numK (n : Nat) : V := ⟨2, (FloatKind.f64.nearest (n : Int) : Nat), []⟩
def lenL (l : Row) : Nat → Nat → Nat
  | 0, n => n
  | f + 1, n => if findW l (numK (n + 1)) < 0 then n else if (l.getD (findW l (numK (n + 1))).toNat (V.nil, V.nil)).2.t = 0 then n else lenL l f (n + 1)
def lenW (ts : List Row) (j : Nat) : Int := lenL (ts.getD j []) 33 0
theorem liveL_hit {l : Row} {i : Nat} (hi : i < l.length) (h : ¬ l[i].2.t = 0) : liveL (l.drop i) = l[i] := by
  rw [List.drop_eq_getElem_cons hi, liveL, if_pos h]
theorem liveL_go {l : Row} {i : Nat} (hi : i < l.length) (h : l[i].2.t = 0) : liveL (l.drop i) = liveL (l.drop (i + 1)) := by
  rw [List.drop_eq_getElem_cons hi, liveL, if_neg (fun q => q h)]
theorem liveL_end {l : Row} {i : Nat} (hi : ¬ i < l.length) : liveL (l.drop i) = (V.nil, V.nil) := by
  rw [List.drop_eq_nil_of_le (by omega), liveL]
theorem getD_at {ts : List Row} {j : Nat} (hj : j < ts.length) : ts.getD j [] = ts[j] := by
  rw [List.getD_eq_getElem?_getD, List.getElem?_eq_getElem hj]; rfl
theorem getD_pr {l : Row} {j : Nat} (hj : j < l.length) : l.getD j (V.nil, V.nil) = l[j] := by
  rw [List.getD_eq_getElem?_getD, List.getElem?_eq_getElem hj]; rfl
end Go.Nm
