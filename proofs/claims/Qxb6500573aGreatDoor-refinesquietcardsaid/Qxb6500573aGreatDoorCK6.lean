/- Plain: package table: the arena, one table at a time. -/
import Derived.Test.Qxb6500573aGreatDoorWChkF
namespace Go.Wl
open Go Go.Sl Go.Nm Go.Proofs
set_option linter.unusedVariables false
def isTabsK (b nb : Nat) (ts : List Tb) (ta : Option Addr) (tc k : Nat) (s : Seg) : Prop :=
  ∃ cs st sa, s = List.flatten [blk b 103 [.pointer (some ⟨nb, 0, none⟩), .slice ta (ts.length + k) tc, I ts.length], sa, st] ∧ Arr 245 6 ta (ts.length + k) tc cs sa ∧ Rws tabR (ts ++ List.replicate k Tb.empty) cs st ∧ ts.length + k ≤ 12
theorem isTabs.toK {b nb : Nat} {ts : List Tb} {s : Seg} (h : isTabs b nb ts s) : ∃ ta tc k, isTabsK b nb ts ta tc k s := by
  obtain ⟨ta, tc, k, cs, st, sa, h1, h2, h3, h4⟩ := h
  exact ⟨ta, tc, k, cs, st, sa, h1, h2, h3, h4⟩
theorem isTabsK.to {b nb : Nat} {ts : List Tb} {ta : Option Addr} {tc k : Nat} {s : Seg} (h : isTabsK b nb ts ta tc k s) : isTabs b nb ts s := by
  obtain ⟨cs, st, sa, h1, h2, h3, h4⟩ := h
  exact ⟨ta, tc, k, cs, st, sa, h1, h2, h3, h4⟩
theorem isTabsK.le {b nb : Nat} {ts : List Tb} {ta : Option Addr} {tc k : Nat} {s : Seg} (h : isTabsK b nb ts ta tc k s) : ts.length + k ≤ 12 := by
  obtain ⟨cs, st, sa, h1, h2, h3, h4⟩ := h
  exact h4
theorem isTabsK.hd {b nb : Nat} {ts : List Tb} {ta : Option Addr} {tc k : Nat} {s : Seg} (h : isTabsK b nb ts ta tc k s) : ∀ (H : Hp) (q : Nat) (v : Value), [.pointer (some ⟨nb, 0, none⟩), .slice ta (ts.length + k) tc, I ts.length][q]? = some v → Cell (s :: H) b (0 + q) v := by
  obtain ⟨cs, st, sa, rfl, h2, h3, h4⟩ := h
  intro H q v hv
  refine Go.Wl.seg_cell (s := blk b 103 [.pointer (some ⟨nb, 0, none⟩), .slice ta (ts.length + k) tc, I ts.length]) (by simp) ?_
  rw [Nat.zero_add]
  exact Cell.head hv
theorem isTabsK.open {b nb : Nat} {ts : List Tb} {ta : Option Addr} {tc k : Nat} {s : Seg} (h : isTabsK b nb ts ta tc k s) {j : Nat} {t : Tb} (hj : (ts ++ List.replicate k Tb.empty)[j]? = some t) :
    ∃ tb c0 ci c2 s0 si s2, ta = some ⟨tb, 0, none⟩ ∧ s = List.flatten [blk b 103 [.pointer (some ⟨nb, 0, none⟩), .slice (some ⟨tb, 0, none⟩) (ts.length + k) tc, I ts.length], blk tb 245 (c0 ++ ci ++ c2), s0, si, s2] ∧ c0.length = 0 + ((j : Nat) : Int).toNat * 6 ∧ tabR t ci si ∧
      ∀ c' s', tabR t c' s' → isTabsK b nb ts (some ⟨tb, 0, none⟩) tc k (List.flatten [blk b 103 [.pointer (some ⟨nb, 0, none⟩), .slice (some ⟨tb, 0, none⟩) (ts.length + k) tc, I ts.length], blk tb 245 (c0 ++ c' ++ c2), s0, s', s2]) := by
  obtain ⟨cs, st, sa, rfl, ha, hr, hk⟩ := h
  obtain ⟨hjl, hje⟩ := List.getElem?_eq_some_iff.1 hj
  have hjl2 : j < ts.length + k := by simpa using hjl
  obtain ⟨tb, tsp, rfl, htc, hsp, rfl⟩ := ha.row (by omega)
  obtain ⟨c0, ci, c2, s0, si, s2, rfl, rfl, h3, h4, h5, h6⟩ := hr.split tabR_len hjl
  rw [hje] at h5
  refine ⟨tb, c0, ci, c2 ++ tsp, s0, si, s2, rfl, by simp, by simp [h3], h5, fun c' s' ht => ?_⟩
  refine ⟨c0 ++ c' ++ c2, List.flatten [s0, s', s2], blk tb 245 (c0 ++ c' ++ c2 ++ tsp), by simp, ?_, ?_, hk⟩
  · refine Arr.mk ?_ htc hsp
    have := ha.1
    have h7 := tabR_len _ _ _ ht
    simp only [List.length_append] at this ⊢
    omega
  · have := h6 t c' s' ht
    rwa [← hje, List.set_getElem_self] at this
/-- The tables at rest. -/
def TsC (ts : List Tb) : Prop := ∀ t, t ∈ ts → TbX t ∧ NNr t.order ∧ ∀ e, e ∈ t.order → well e.1 = true ∧ well e.2 = true ∧ isNilV e.1 = false
theorem TsC.at {ts : List Tb} (h : TsC ts) {k j : Nat} {t : Tb} (hj : (ts ++ List.replicate k Tb.empty)[j]? = some t) : (TbX t ∧ NNr t.order ∧ ∀ e, e ∈ t.order → well e.1 = true ∧ well e.2 = true ∧ isNilV e.1 = false) ∧ (ts.length ≤ j → t.order.length = 0) := by
  by_cases c : j < ts.length
  · rw [List.getElem?_append_left c] at hj
    exact ⟨h t (List.mem_of_getElem? hj), fun q => by omega⟩
  · rw [List.getElem?_append_right (by omega)] at hj
    have := List.eq_of_mem_replicate (List.mem_of_getElem? hj)
    subst this
    exact ⟨⟨TbX.empty, (fun e he => by cases he), (fun e he => by cases he)⟩, fun _ => rfl⟩
theorem none_of {l : List (Int × Int)} {k : Int} (h : ∀ q, (k, q) ∉ l) : mfind l k = none := by
  cases hm : mfind l k with
  | none => rfl
  | some q => exact absurd (mfind_mem hm) (h q)
end Go.Wl
