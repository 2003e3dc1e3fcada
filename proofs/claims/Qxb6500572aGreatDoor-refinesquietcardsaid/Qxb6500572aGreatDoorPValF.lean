/- Branches. -/
import Derived.Test.Qxb6500572aGreatDoorPValE
namespace Go.Wl
open Go Go.Sl
set_option linter.unusedVariables false
variable {P : Prog} {u : Fun} {n : Nat} {C C1 C2 C' : Chk} {T T' : Typ} {G G' : Goals} {fs : List Fun} {c : Ins} {w : Nat → Nat → Prop}
theorem OR.thenSame (h : OR C C1 w) (e : C'.opn = C1.opn) : OR C C' w := ⟨by rw [e]; exact h.len, fun j b hb => by rw [e]; exact h.each j b hb⟩
theorem OR.thenDead (h : OR C C1 w) (hne : C.opn ≠ []) (e : C'.opn = (C1.setTop { C1.top with dead := true }).opn) : OR C C' w := by
  have hpos : 0 < C.opn.length := by cases hx : C.opn with
    | nil => exact absurd hx hne
    | cons a l => simp
  refine ⟨by rw [e]; show (C1.opn.set _ _).length = _; rw [List.length_set]; exact h.len, fun j b hb => ?_⟩
  obtain ⟨b', k1, k2, k3, k4, k5, k6, k7, k8, k9⟩ := h.each j b hb
  have hj := (List.getElem?_eq_some_iff.1 hb).1
  by_cases ej : j = C.opn.length - 1
  · have ht : C1.top = b' := by
      unfold Chk.top; rw [List.getD_eq_getElem?_getD, h.len, ← ej, k1]; rfl
    refine ⟨{ b' with dead := true }, ?_, k2, k3, k4, k5, k6, fun hh => by omega, fun _ => rfl, k9⟩
    rw [e]
    show (C1.opn.set (C1.opn.length - 1) { C1.top with dead := true })[j]? = _
    rw [ht, h.len, ← ej, List.getElem?_set_self (by rw [h.len]; omega)]
  · refine ⟨b', ?_, k2, k3, k4, k5, k6, k7, k8, k9⟩
    rw [e]
    show (C1.opn.set (C1.opn.length - 1) _)[j]? = _
    rw [List.getElem?_set_ne (by rw [h.len]; omega)]; exact k1
theorem OR.trans {w' : Nat → Nat → Prop} (h : OR C C1 w) (g : OR C1 C2 w') : OR C C2 (fun a j => w a j ∨ w' a j) := by
  refine ⟨g.len.trans h.len, fun j b hb => ?_⟩
  obtain ⟨b1, k1, k2, k3, k4, k5, k6, k7, k8, k9⟩ := h.each j b hb
  obtain ⟨b2, q1, q2, q3, q4, q5, q6, q7, q8, q9⟩ := g.each j b1 k1
  refine ⟨b2, q1, q2.trans k2, q3.trans k3, q4.trans k4, q5.trans k5, q6.trans k6, fun hh => (q7 (by rw [h.len]; exact hh)).trans (k7 hh), fun x => q8 (k8 x), fun a => ?_⟩
  rw [q9, k9]; exact or_assoc
/-- The block that a label names. -/
def lab (C : Chk) (l : Nat) : Blk := C.opn.getD (C.opn.length - 1 - l) Blk.nil
theorem lab_get {l : Nat} (hl : l < C.opn.length) : C.opn[C.opn.length - 1 - l]? = some (lab C l) := by
  unfold lab; rw [List.getD_eq_getElem?_getD, List.getElem?_eq_getElem (by omega)]; rfl
theorem jump_facts {op : Int} {l : Nat} (hl : l < C.opn.length) : (jump C op l).1.code = C.code ++ [⟨op, (lab C l).head, (lab C l).carry.length, (lab C l).height⟩] ∧ (jump C op l).1.st = C.st ∧ (jump C op l).2 = (lab C l).carry ∧
    OR C (jump C op l).1 (fun a j => (lab C l).head < 0 ∧ a = C.code.length ∧ j = C.opn.length - 1 - l) := by
  have hg := lab_get hl
  unfold jump
  dsimp only
  show (if (lab C l).head < 0 then _ else _ : Chk).code = _ ∧ (if (lab C l).head < 0 then _ else _ : Chk).st = _ ∧ _ ∧ OR C (if (lab C l).head < 0 then _ else _) _
  by_cases hh : (lab C l).head < 0
  · rw [if_pos hh]
    refine ⟨rfl, rfl, rfl, ⟨by show (C.opn.set _ _).length = _; rw [List.length_set], fun j b hb => ?_⟩⟩
    by_cases ej : j = C.opn.length - 1 - l
    · subst ej
      rw [hg] at hb; cases hb
      refine ⟨{ lab C l with wait := (lab C l).wait ++ [C.code.length] }, ?_, rfl, rfl, rfl, rfl, rfl, fun _ => rfl, fun x => x, fun a => ?_⟩
      · show (C.opn.set (C.opn.length - 1 - l) _)[_]? = _
        rw [List.getElem?_set_self (by omega)]; rfl
      · show a ∈ (lab C l).wait ++ [C.code.length] ↔ _
        simp [hh]
    · refine ⟨b, ?_, rfl, rfl, rfl, rfl, rfl, fun _ => rfl, fun x => x, fun a => ?_⟩
      · show (C.opn.set (C.opn.length - 1 - l) _)[j]? = _
        rw [List.getElem?_set_ne (fun h => ej h.symm)]; exact hb
      · constructor
        · exact .inl
        · rintro (h | ⟨_, _, h⟩)
          · exact h
          · exact absurd h ej
  · rw [if_neg hh]
    refine ⟨rfl, rfl, rfl, ⟨rfl, fun j b hb => ⟨b, hb, rfl, rfl, rfl, rfl, rfl, fun _ => rfl, fun x => x, fun a => ?_⟩⟩⟩
    constructor
    · exact .inl
    · rintro (h | ⟨h, _⟩)
      · exact h
      · exact absurd h hh
theorem OR.topf (h : OR C C1 w) (hv : VI P u n C T G) : C1.top.height = C.top.height ∧ (Live C → C1.top.dead = false ∨ True) := by
  obtain ⟨b', k1, k2, _⟩ := h.each _ _ hv.topm.1
  refine ⟨?_, fun _ => .inr trivial⟩
  have : C1.top = b' := by unfold Chk.top; rw [List.getD_eq_getElem?_getD, h.len, k1]; rfl
  rw [this, k2]
theorem jump_top {op : Int} {l : Nat} (hl : l < C.opn.length) (hv : VI P u n C T G) : (jump C op l).1.top.height = C.top.height ∧ (jump C op l).1.top.dead = C.top.dead := by
  have hf := jump_strip C op l
  have := strip_fields (strip_top hf)
  exact ⟨this.2.2.1, this.2.2.2.2.1⟩
/-- A jump from τ: its goal. -/
theorem jx_goal {b : Blk} {st1 carry : List UInt8} (hb : b.height ≤ st1.length) {op x : Int} {g : Goals} {a : Nat} (hg : g a = some (st1.take b.height ++ carry)) : JX g a (st1 ++ carry) ⟨op, x, carry.length, b.height⟩ := by
  refine ⟨by simp, by simp, by simp; omega, ?_⟩
  show g a = some ((st1 ++ carry).take ((b.height : Nat) : Int).toNat ++ (st1 ++ carry).drop ((st1 ++ carry).length - ((carry.length : Nat) : Int).toNat))
  rw [hg, Int.toNat_natCast, Int.toNat_natCast, List.take_append_of_le_length hb, List.length_append, Nat.add_sub_cancel, List.drop_left]
end Go.Wl
