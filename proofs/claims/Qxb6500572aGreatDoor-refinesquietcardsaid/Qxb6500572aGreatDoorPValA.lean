/- The validator is sound: what popping does. -/
import Derived.Test.Qxb6500572aGreatDoorPSafeA
import Derived.Test.Qxb6500572aGreatDoorPInv
namespace Go.Wl
open Go Go.Sl
set_option linter.unusedVariables false
/-- Above the floor only. -/
structure Pop (C C' : Chk) : Prop where
  opn : C'.opn = C.opn
  code : C'.code = C.code
  len : C'.st.length ≤ C.st.length
  ht : C.top.height ≤ C'.st.length
  pre : ∃ x, C.st = C'.st ++ x
theorem Pop.refl {C : Chk} (h : C.top.height ≤ C.st.length) : Pop C C := ⟨rfl, rfl, Nat.le_refl _, h, [], by simp⟩
theorem Pop.top {C C' : Chk} (h : Pop C C') : C'.top = C.top := by unfold Chk.top; rw [h.opn]
theorem Pop.trans {A B C : Chk} (h : Pop A B) (g : Pop B C) : Pop A C := by
  obtain ⟨x, hx⟩ := h.pre
  obtain ⟨y, hy⟩ := g.pre
  exact ⟨g.opn.trans h.opn, g.code.trans h.code, Nat.le_trans g.len h.len, by rw [← h.top]; exact g.ht, y ++ x, by rw [hx, hy]; simp⟩
theorem pop_pop {C : Chk} (h : C.top.height ≤ C.st.length) (t : UInt8) : Pop C (pop C t).1 := by
  unfold pop
  split
  · exact Pop.refl h
  · rename_i hn
    have e : Pop C { C with st := C.st.take (C.st.length - 1) } := ⟨rfl, rfl, by simp, by show C.top.height ≤ (C.st.take _).length; rw [List.length_take]; omega, C.st.drop (C.st.length - 1), by simp⟩
    split <;> exact e
theorem pops_pop : ∀ {l : List UInt8} {C : Chk}, C.top.height ≤ C.st.length → Pop C (popsR C l).1
  | [], C, h => Pop.refl h
  | t :: l, C, h => by
    unfold popsR
    have h1 := pop_pop h t
    split
    · exact h1.trans (pops_pop (by rw [h1.top]; exact h1.ht))
    · exact h1
/-- A live pop of a known type. -/
theorem pop_live {C : Chk} {t : UInt8} (h : C.top.height ≤ C.st.length) (hd : C.top.dead = false) (hz : ty2 C.st) (ho : (pop C t).2.2 = true) : ∃ s, C.st = (pop C t).1.st ++ [s] ∧ (pop C t).2.1 = s ∧ (t = 0 ∨ s = t) := by
  unfold pop at ho ⊢
  split
  · rename_i he; rw [if_pos he, hd] at ho; cases ho
  · rename_i he
    rw [if_neg he] at ho
    have hl : C.st.length - 1 < C.st.length := by omega
    have hg : C.st.getD (C.st.length - 1) 0 = C.st[C.st.length - 1] := by rw [List.getD_eq_getElem?_getD, List.getElem?_eq_getElem hl]; rfl
    have hne : ¬ C.st.getD (C.st.length - 1) 0 = 0 := by
      rw [hg]
      rcases hz _ (List.getElem_mem hl) with e | e <;> rw [e] <;> decide
    rw [if_neg hne] at ho ⊢
    have e : C.st = C.st.take (C.st.length - 1) ++ [C.st[C.st.length - 1]] := by
      conv => lhs; rw [← List.take_append_drop (C.st.length - 1) C.st]
      rw [List.drop_eq_getElem_cons hl, List.drop_eq_nil_of_le (by omega)]
    refine ⟨C.st[C.st.length - 1], e, hg, ?_⟩
    have := of_decide_eq_true ho
    rw [hg] at this
    exact this
theorem popsR_live : ∀ {l : List UInt8} {C : Chk}, C.top.height ≤ C.st.length → C.top.dead = false → ty2 C.st → ty2 l → (popsR C l).2 = 0 → C.st = (popsR C l).1.st ++ l.reverse
  | [], C, _, _, _, _, _ => by simp [popsR]
  | t :: l, C, h, hd, hz, hl, h0 => by
    unfold popsR at h0 ⊢
    split
    · rename_i ho
      rw [if_pos ho] at h0
      obtain ⟨s, h1, h2, h3⟩ := pop_live h hd hz ho
      have hp := pop_pop h t
      have ht0 : s = t := h3.resolve_left (by rcases hl t List.mem_cons_self with e | e <;> rw [e] <;> decide)
      have ih := popsR_live (C := (pop C t).1) (by rw [hp.top]; exact hp.ht) (by rw [hp.top]; exact hd) (fun x hx => hz x (by rw [h1]; exact List.mem_append_left _ hx)) (fun x hx => hl x (List.mem_cons_of_mem _ hx)) h0
      rw [List.reverse_cons, ← List.append_assoc, ← ih]
      rw [ht0] at h1; exact h1
    · rename_i ho
      rw [if_neg ho] at h0; cases h0
theorem pops_live {l : List UInt8} {C : Chk} (h : C.top.height ≤ C.st.length) (hd : C.top.dead = false) (hz : ty2 C.st) (hl : ty2 l) (h0 : (pops C l).2 = 0) : C.st = (pops C l).1.st ++ l := by
  have := popsR_live (l := l.reverse) h hd hz (fun x hx => hl x (by simpa using hx)) h0
  simpa [pops] using this
theorem pops_P {l : List UInt8} {C : Chk} (h : C.top.height ≤ C.st.length) : Pop C (pops C l).1 := pops_pop h
end Go.Wl
