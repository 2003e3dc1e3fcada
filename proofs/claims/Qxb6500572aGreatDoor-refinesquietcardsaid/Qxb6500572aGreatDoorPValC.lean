/- One instruction is laid. -/
import Derived.Test.Qxb6500572aGreatDoorPValB
namespace Go.Wl
open Go Go.Sl
set_option linter.unusedVariables false
variable {P : Prog} {u : Fun} {n : Nat} {C C' : Chk} {T T' : Typ} {G G' : Goals} {c : Flat}
/-- How the blocks change where one instruction is laid: 'w': whose end it waits for. -/
structure OR (C C' : Chk) (w : Nat → Nat → Prop) : Prop where
  len : C'.opn.length = C.opn.length
  each : ∀ (j : Nat) (b : Blk), C.opn[j]? = some b → ∃ b', C'.opn[j]? = some b' ∧ b'.height = b.height ∧ b'.res = b.res ∧ b'.carry = b.carry ∧ b'.head = b.head ∧ b'.alt = b.alt ∧ (j + 1 < C.opn.length → b'.dead = b.dead) ∧ (b.dead = true → b'.dead = true) ∧ (∀ a, a ∈ b'.wait ↔ a ∈ b.wait ∨ w a j)
theorem OR.back {w : Nat → Nat → Prop} (h : OR C C' w) {j : Nat} {b' : Blk} (hb : C'.opn[j]? = some b') : ∃ b, C.opn[j]? = some b ∧ b'.height = b.height ∧ b'.res = b.res ∧ b'.carry = b.carry ∧ b'.head = b.head ∧ b'.alt = b.alt ∧ (j + 1 < C.opn.length → b'.dead = b.dead) ∧ (b.dead = true → b'.dead = true) ∧ (∀ a, a ∈ b'.wait ↔ a ∈ b.wait ∨ w a j) := by
  have hj := (List.getElem?_eq_some_iff.1 hb).1
  rw [h.len] at hj
  have hg : C.opn[j]? = some C.opn[j] := List.getElem?_eq_getElem hj
  obtain ⟨b1, h1, rest⟩ := h.each j _ hg
  rw [hb] at h1; cases h1
  exact ⟨_, hg, rest⟩
theorem OR.live {w : Nat → Nat → Prop} (h : OR C C' w) {j : Nat} (hj : j < C.opn.length) : liveTo C'.opn j ↔ liveTo C.opn j := by
  constructor
  · intro hl i b hi hb
    obtain ⟨b', h1, _, _, _, _, _, h7, _⟩ := h.each i b hb
    rw [← h7 (by omega)]; exact hl i b' hi h1
  · intro hl i b' hi hb
    obtain ⟨b, h1, _, _, _, _, _, h7, _⟩ := h.back hb
    rw [h7 (by omega)]; exact hl i b hi h1
theorem OR.liveC {w : Nat → Nat → Prop} (h : OR C C' w) (hl : Live C') : Live C := by
  intro i b hi hb
  obtain ⟨b', h1, _, _, _, _, _, _, h8, _⟩ := h.each i b hb
  have := hl i b' (by rw [h.len]; exact hi) h1
  cases hd : b.dead with
  | false => rfl
  | true => rw [h8 hd] at this; cases this
theorem OR.mem {w : Nat → Nat → Prop} (h : OR C C' w) {b' : Blk} (hb : b' ∈ C'.opn) : ∃ (j : Nat) (b : Blk), C'.opn[j]? = some b' ∧ C.opn[j]? = some b ∧ b ∈ C.opn ∧ b'.height = b.height ∧ b'.res = b.res ∧ b'.carry = b.carry ∧ b'.head = b.head ∧ b'.alt = b.alt ∧ (∀ a, a ∈ b'.wait ↔ a ∈ b.wait ∨ w a j) := by
  obtain ⟨j, hj, he⟩ := List.mem_iff_getElem.1 hb
  have hg : C'.opn[j]? = some b' := by rw [List.getElem?_eq_getElem hj, he]
  obtain ⟨b, h1, h2, h3, h4, h5, h6, _, _, h9⟩ := h.back hg
  exact ⟨j, b, hg, h1, List.mem_of_getElem? h1, h2, h3, h4, h5, h6, h9⟩
theorem VI.plt (h : VI P u n C T G) {b : Blk} (hb : b ∈ C.opn) {a : Nat} (ha : a ∈ pend b) : a < C.code.length := by
  obtain ⟨c, hc, _⟩ := h.pj b hb a ha
  exact (List.getElem?_eq_some_iff.1 hc).1
theorem VI.emit (h : VI P u n C T G) {w : Nat → Nat → Prop} {es : List Flat} (hcode : C'.code = C.code ++ c :: es) (hO : OR C C' w)
    (hst : ∀ b, b ∈ C.opn → C'.st.take b.height = C.st.take b.height ∧ b.height ≤ C'.st.length) (hn : C'.st.length ≤ n + 1) (hz : Live C' → ty2 C'.st)
    (hw : ∀ a j, w a j → C.code.length ≤ a ∧ ∃ x, C'.code[a]? = some x ∧ jop x.op) (hwf : ∀ a i j, w a i → w a j → i = j)
    (t1 : ∀ pc, pc ≤ C.code.length → T' pc = T pc) (tm : ∀ pc, C.code.length < pc → pc < C'.code.length → T' pc = none) (t2 : Live C' → T' C'.code.length = some C'.st) (t2n : ¬ Live C' → T' C'.code.length = none) (t3 : ∀ pc, C'.code.length < pc → T' pc = none)
    (g1 : ∀ a, a < C.code.length → G' a = G a)
    (g2 : ∀ a t, C.code.length ≤ a → G' a = some t → a < C'.code.length ∧ ((∃ (j : Nat) (b : Blk), w a j ∧ C.opn[j]? = some b ∧ liveTo C.opn j ∧ t = C.st.take b.height ++ b.res) ∨ ((∀ j, ¬ w a j) ∧ ∃ x, C'.code[a]? = some x ∧ 0 ≤ x.imm ∧ T x.imm.toNat = some t ∧ x.op ≠ 4)))
    (hix : Live C → IX P u C'.code T' G' C.code.length c C.st) : VI P u (n + 1) C' T' G' := by
  have hTT : ∀ a t, T a = some t → T' a = some t := fun a t ha => by
    by_cases hl : a ≤ C.code.length
    · rw [t1 a hl]; exact ha
    · rw [h.out a (by omega)] at ha; cases ha
  have hGG : ∀ a t, G a = some t → G' a = some t := fun a t ha => by rw [g1 a (h.gl a t ha).1]; exact ha
  have hclen : C'.code.length = C.code.length + 1 + es.length := by rw [hcode]; simp; omega
  have hget : ∀ (a : Nat) (x : Flat), C.code[a]? = some x → C'.code[a]? = some x := fun a x hx => by rw [hcode, List.getElem?_append_left (List.getElem?_eq_some_iff.1 hx).1]; exact hx
  have hlenj : ∀ {j : Nat} {b : Blk}, C.opn[j]? = some b → j < C.opn.length := fun hb => (List.getElem?_eq_some_iff.1 hb).1
  have hpend : ∀ {j : Nat} {b b' : Blk}, b'.alt = b.alt → (∀ a, a ∈ b'.wait ↔ a ∈ b.wait ∨ w a j) → ∀ a, a ∈ pend b' → a ∈ pend b ∨ w a j := by
    intro j b b' ha hw' a hm
    unfold pend at hm ⊢
    rw [ha] at hm
    rcases List.mem_append.1 hm with hm | hm
    · rcases (hw' a).1 hm with hm | hm
      · exact .inl (List.mem_append_left _ hm)
      · exact .inr hm
    · exact .inl (List.mem_append_right _ hm)
  refine ⟨?_, ?_, ?_, ?_, hn, hz, ?_, ?_, ?_, ?_, ?_, ?_, ?_, ?_, ?_, ?_, ?_, ?_, hTT _ _ h.z0⟩
  · intro e
    have := hO.len; rw [e] at this
    exact h.ne (List.eq_nil_of_length_eq_zero (by simpa using this.symm))
  · intro b' hb'
    obtain ⟨j, b, _, _, hm, e1, _⟩ := hO.mem hb'
    rw [e1]; exact (hst b hm).2
  · intro i j a' b' hij ha' hb'
    obtain ⟨a, h1, e1, _⟩ := hO.back ha'
    obtain ⟨b, h2, e2, _⟩ := hO.back hb'
    rw [e1, e2]; exact h.inc i j a b hij h1 h2
  · intro b' hb'
    obtain ⟨j, b, _, _, hm, e1, e2, e3, e4, _⟩ := hO.mem hb'
    rw [e2, e3, e4]; exact h.res b hm
  · intro j b' hb' hl
    obtain ⟨b, h1, e1, _⟩ := hO.back hb'
    rw [e1, (hst b (List.mem_of_getElem? h1)).1]
    exact h.zht j b h1 ((hO.live (hlenj h1)).1 hl)
  · exact t2
  · exact t2n
  · exact t3
  · intro pc τ hτ
    by_cases h1 : pc ≤ C.code.length
    · rw [t1 pc h1] at hτ; have := h.tl pc τ hτ; exact ⟨by omega, this.2⟩
    · by_cases h2 : pc = C'.code.length
      · subst h2
        by_cases hl : Live C'
        · rw [t2 hl] at hτ; cases hτ; exact ⟨hn, hz hl⟩
        · rw [t2n hl] at hτ; cases hτ
      · by_cases h3 : pc < C'.code.length
        · rw [tm pc (by omega) h3] at hτ; cases hτ
        · rw [t3 pc (by omega)] at hτ; cases hτ
  · intro pc τ x hx hτ
    have hlt := (List.getElem?_eq_some_iff.1 hx).1
    by_cases h1 : pc = C.code.length
    · subst h1
      have hxc : x = c := by rw [hcode, List.getElem?_append_right (Nat.le_refl _), Nat.sub_self] at hx; simpa using hx.symm
      subst hxc
      rw [t1 _ (Nat.le_refl _)] at hτ
      by_cases hl : Live C
      · rw [h.cur hl] at hτ; cases hτ; exact hix hl
      · rw [h.curN hl] at hτ; cases hτ
    · by_cases h2 : pc < C.code.length
      · have hx0 : C.code[pc]? = some x := by rw [hcode, List.getElem?_append_left h2] at hx; exact hx
        rw [t1 pc (by omega)] at hτ
        exact (h.ins pc τ x hx0 hτ).mono (by rw [hcode]; exact CodeLe.app _ _) hTT hGG rfl rfl rfl (fun _ => rfl)
      · rw [tm pc (by omega) hlt] at hτ; cases hτ
  · intro a t ha
    by_cases h1 : a < C.code.length
    · rw [g1 a h1] at ha
      obtain ⟨hlt, hr⟩ := h.gl a t ha
      refine ⟨by omega, ?_⟩
      rcases hr with ⟨j, b, e1, e2, e3⟩ | ⟨e1, x, e2, e3, e4, e5⟩
      · left
        obtain ⟨b', k1, k2, k3, _, _, k6, _, _, k9⟩ := hO.each j b e1
        refine ⟨j, b', k1, (hO.live (hlenj e1)).2 e2, ?_⟩
        rw [k2, k3, k6, (hst b (List.mem_of_getElem? e1)).1]
        rcases e3 with ⟨a1, a2⟩ | a1
        · exact .inl ⟨(k9 a).2 (.inl a1), a2⟩
        · exact .inr a1
      · right
        refine ⟨?_, x, hget _ _ e2, e3, hTT _ _ e4, e5⟩
        intro b' hb' hm
        obtain ⟨j, b, _, _, hbm, _, _, _, _, k6, k9⟩ := hO.mem hb'
        rcases hpend k6 k9 _ hm with hm | hm
        · exact e1 b hbm hm
        · have := (hw a j hm).1; omega
    · obtain ⟨hlt, hr⟩ := g2 a t (by omega) ha
      refine ⟨hlt, ?_⟩
      rcases hr with ⟨j, b, e1, e2, e3, e4⟩ | ⟨e1, x, e2, e3, e4, e5⟩
      · left
        obtain ⟨b', k1, k2, k3, _, _, _, _, _, k9⟩ := hO.each j b e2
        refine ⟨j, b', k1, (hO.live (hlenj e2)).2 e3, .inl ⟨(k9 a).2 (.inr e1), ?_⟩⟩
        rw [e4, k2, k3, (hst b (List.mem_of_getElem? e2)).1]
      · right
        refine ⟨?_, x, e2, e3, hTT _ _ e4, fun h4 => absurd h4 e5⟩
        intro b' hb' hm
        obtain ⟨j, b, _, _, hbm, _, _, _, _, k6, k9⟩ := hO.mem hb'
        rcases hpend k6 k9 _ hm with hm | hm
        · have := h.plt hbm hm; omega
        · exact e1 _ hm
  · intro b' hb' a ha
    obtain ⟨j, b, _, _, hbm, _, _, _, _, k6, k9⟩ := hO.mem hb'
    rcases hpend k6 k9 _ ha with hm | hm
    · obtain ⟨x, hx, hjx⟩ := h.pj b hbm a hm
      exact ⟨x, hget _ _ hx, hjx⟩
    · exact (hw a j hm).2
  · intro i j a' b' x ha' hb' hxa hxb
    obtain ⟨a, h1, _, _, _, _, k6, _, _, k9⟩ := hO.back ha'
    obtain ⟨b, h2, _, _, _, _, q6, _, _, q9⟩ := hO.back hb'
    rcases hpend k6 k9 _ hxa with hm | hm <;> rcases hpend q6 q9 _ hxb with hm' | hm'
    · exact h.pu i j a b x h1 h2 hm hm'
    · have := h.plt (List.mem_of_getElem? h1) hm; have := (hw x j hm').1; omega
    · have := h.plt (List.mem_of_getElem? h2) hm'; have := (hw x i hm).1; omega
    · exact hwf x i j hm hm'
  · intro b' hb' a ha hm
    obtain ⟨j, b, _, _, hbm, _, _, _, _, k6, k9⟩ := hO.mem hb'
    rw [k6] at ha
    rcases (k9 a).1 hm with hm | hm
    · exact h.pw b hbm a ha hm
    · have hlt := h.plt hbm (show a ∈ pend b by unfold pend; rw [ha]; simp)
      have := (hw a j hm).1; omega
  · intro j b' hb' h0
    obtain ⟨b, h1, e1, _, _, e4, _⟩ := hO.back hb'
    rw [e4] at h0
    obtain ⟨q1, q2⟩ := h.hd j b h1 h0
    refine ⟨by rw [e4, hclen]; omega, fun hl => ?_⟩
    rw [e4, e1, (hst b (List.mem_of_getElem? h1)).1]
    exact hTT _ _ (q2 ((hO.live (hlenj h1)).1 hl))
  · intro b' hb'
    obtain ⟨b, h1, e1, e2, _, e4, e5, _⟩ := hO.back hb'
    rw [e1, e2, e4, e5]; exact h.bot b h1
end Go.Wl
