/- Branches and tables. -/
import Derived.Test.Qxb6500572aGreatDoorPValF
namespace Go.Wl
open Go Go.Sl
set_option linter.unusedVariables false
variable {P : Prog} {u : Fun} {n : Nat} {C C1 C2 C' : Chk} {T T' : Typ} {G G' : Goals} {fs : List Fun} {c : Ins} {w : Nat → Nat → Prop}
theorem live_strip (h : C'.opn.map Blk.strip = C.opn.map Blk.strip) (hl : Live C) : Live C' := by
  have hlen : C'.opn.length = C.opn.length := by have := congrArg List.length h; simpa using this
  intro i b hi hb
  rw [hlen] at hi
  have hg : C.opn[i]? = some C.opn[i] := List.getElem?_eq_getElem hi
  have e : (C'.opn.map Blk.strip)[i]? = (C.opn.map Blk.strip)[i]? := by rw [h]
  rw [List.getElem?_map, List.getElem?_map, hb, hg] at e
  have := (strip_fields (Option.some.inj e)).2.2.2.2.1
  rw [this]; exact hl i _ hi hg
theorem VI.labm (h : VI P u n C T G) {l : Nat} (hl : l < C.opn.length) : lab C l ∈ C.opn := List.mem_of_getElem? (lab_get hl)
theorem VI.carry (h : VI P u n C T G) {b : Blk} (hb : b ∈ C.opn) : b.carry.length ≤ 1 ∧ ty2 b.carry := by
  obtain ⟨h1, h2, h3, h4⟩ := h.res b hb
  by_cases e : b.head < 0
  · rw [h3 e]; exact ⟨h1, h2⟩
  · rw [h4 (by omega)]; exact ⟨by simp, fun t ht => by simp at ht⟩
theorem VI.popst (h : VI P u n C T G) {st : List UInt8} {x : List UInt8} (hx : C.st = st ++ x) (hth : C.top.height ≤ st.length) {o : List UInt8} {b : Blk} (hb : b ∈ C.opn) : (st ++ o).take b.height = C.st.take b.height ∧ b.height ≤ (st ++ o).length ∧ b.height ≤ st.length ∧ st.take b.height = C.st.take b.height := by
  have hb1 := h.toph hb
  refine ⟨?_, by simp; omega, by omega, ?_⟩
  · rw [hx, List.take_append_of_le_length (by omega), List.take_append_of_le_length (by omega)]
  · rw [hx, List.take_append_of_le_length (by omega)]
/-- The goal of a jump to the label l. -/
theorem VI.goal (h : VI P u n C T G) {l : Nat} (hl : l < C.opn.length) (hL : Live C) {t : List UInt8} (ht : t = C.st.take (lab C l).height ++ (lab C l).carry) {a : Nat} {W : Prop} (hW : W ↔ (lab C l).head < 0) :
    (W ∧ C.opn[C.opn.length - 1 - l]? = some (lab C l) ∧ liveTo C.opn (C.opn.length - 1 - l) ∧ t = C.st.take (lab C l).height ++ (lab C l).res) ∨ (¬ W ∧ 0 ≤ (lab C l).head ∧ T (lab C l).head.toNat = some t) := by
  have hlt : liveTo C.opn (C.opn.length - 1 - l) := fun i b hi hb => hL i b (by omega) hb
  by_cases hh : (lab C l).head < 0
  · exact .inl ⟨hW.2 hh, lab_get hl, hlt, by rw [ht, (h.res _ (h.labm hl)).2.2.1 hh]⟩
  · refine .inr ⟨fun hw => hh (hW.1 hw), by omega, ?_⟩
    rw [ht, (h.res _ (h.labm hl)).2.2.2 (by omega), List.append_nil]
    exact (h.hd _ _ (lab_get hl) (by omega)).2 hlt
open Classical in
theorem VI.branch (h : VI P u n C T G) (hop : c.op = 6 ∨ c.op = 7) (hi0 : 0 ≤ c.imm) (he : (branch C c).2 = 0) : ∃ T' G', VI P u (n + 1) (branch C c).1 T' G' ∧ TLe T T' := by
  unfold Wl.branch at he ⊢
  split at he
  · cases he
  rename_i hlt
  rw [if_neg hlt]
  dsimp only at he ⊢
  have hl : c.imm.toNat < C.opn.length := by omega
  obtain ⟨l, hle⟩ : ∃ l, c.imm.toNat = l := ⟨_, rfl⟩
  rw [hle] at he hl ⊢
  have hf := jump_facts (op := c.op) hl
  have ht := jump_top (op := c.op) hl h
  have hs := jump_strip C c.op l
  obtain ⟨R, hR⟩ : ∃ R, jump C c.op l = R := ⟨_, rfl⟩
  rw [hR] at hf ht hs he ⊢
  obtain ⟨J, d⟩ := R
  obtain ⟨f1, f2, f3, f4⟩ := hf
  dsimp only at f1 f2 f3 f4 ht hs he ⊢
  subst f3
  have hJl : J.top.height ≤ J.st.length := by rw [ht.1, f2]; exact h.topl
  have hbm := h.labm hl
  have hcar := h.carry hbm
  have hjo : jop c.op := by unfold jop; omega
  have hcget : ∀ es, (C.code ++ (⟨c.op, (lab C l).head, (lab C l).carry.length, (lab C l).height⟩ : Flat) :: es)[C.code.length]? = some ⟨c.op, (lab C l).head, (lab C l).carry.length, (lab C l).height⟩ := fun es => by
    rw [List.getElem?_append_right (Nat.le_refl _), Nat.sub_self]; rfl
  have g2 : ∀ (C' : Chk), C'.code = C.code ++ [⟨c.op, (lab C l).head, (lab C l).carry.length, (lab C l).height⟩] → ∀ a t, C.code.length ≤ a → (if a = C.code.length ∧ Live C then some (C.st.take (lab C l).height ++ (lab C l).carry) else none) = some t → a < C'.code.length ∧ ((∃ (j : Nat) (b : Blk), ((lab C l).head < 0 ∧ a = C.code.length ∧ j = C.opn.length - 1 - l) ∧ C.opn[j]? = some b ∧ liveTo C.opn j ∧ t = C.st.take b.height ++ b.res) ∨ ((∀ j, ¬ ((lab C l).head < 0 ∧ a = C.code.length ∧ j = C.opn.length - 1 - l)) ∧ ∃ x, C'.code[a]? = some x ∧ 0 ≤ x.imm ∧ T x.imm.toNat = some t ∧ x.op ≠ 4)) := by
    intro C' hc a t ha hg
    split at hg
    · rename_i hh
      obtain ⟨rfl, hL⟩ := hh
      cases hg
      refine ⟨by rw [hc]; simp, ?_⟩
      rcases h.goal hl hL rfl (a := 0) (W := (lab C l).head < 0) Iff.rfl with ⟨q1, q2, q3, q4⟩ | ⟨q1, q2, q3⟩
      · exact .inl ⟨_, _, ⟨q1, rfl, rfl⟩, q2, q3, q4⟩
      · exact .inr ⟨fun j hw => q1 hw.1, _, by rw [hc]; exact hcget [], q2, q3, by dsimp only; omega⟩
    · cases hg
  rcases hop with h6 | h7
  · rw [if_pos h6] at he ⊢
    have hp := pops_P (l := (lab C l).carry) hJl
    obtain ⟨x, hx⟩ := hp.pre
    rw [f2] at hx
    have hth := hp.ht
    rw [ht.1] at hth
    obtain ⟨Q, hQ⟩ : ∃ Q, (leaves J (lab C l).carry).1 = Q := ⟨_, rfl⟩
    have hQc : Q.code = C.code ++ [⟨c.op, (lab C l).head, (lab C l).carry.length, (lab C l).height⟩] := by rw [← hQ]; show (pops J _).1.code = _; rw [hp.code, f1]
    have hQs : Q.st = (pops J (lab C l).carry).1.st.take C.top.height := by rw [← hQ]; show (pops J _).1.st.take (pops J (lab C l).carry).1.top.height = _; rw [hp.top, ht.1]
    have hQo : Q.opn = (J.setTop { J.top with dead := true }).opn := by rw [← hQ]; show ((pops J _).1.setTop _).opn = _; unfold Chk.setTop; dsimp only; rw [hp.opn, hp.top]
    have hO : OR C Q (fun a j => (lab C l).head < 0 ∧ a = C.code.length ∧ j = C.opn.length - 1 - l) := f4.thenDead h.ne hQo
    have hnl : ¬ Live Q := dead_live (Pop.refl hJl) (by intro e; have := f4.len; rw [e] at this; exact h.ne (List.eq_nil_of_length_eq_zero (by simpa using this.symm))) hQo
    rw [hQ]
    refine h.lay (es := []) hQc hO (fun b hb => ?_) ?_ (fun hl' => absurd hl' hnl) (fun a j hw => ?_) (fun a i j hi hj => hi.2.2.trans hj.2.2.symm) (fun a => if a = C.code.length ∧ Live C then some (C.st.take (lab C l).height ++ (lab C l).carry) else none) (g2 Q hQc) (fun hL T' G' _ hG => ?_)
    · have hb1 := h.toph hb
      have := h.popst hx hth (o := []) hb
      rw [hQs, List.take_take, Nat.min_eq_left hb1, List.length_take]
      exact ⟨this.2.2.2, by omega⟩
    · rw [hQs, List.length_take]; have := h.topl; have := h.stn; omega
    · obtain ⟨_, rfl, _⟩ := hw
      exact ⟨Nat.le_refl _, _, by rw [hQc]; exact hcget [], hjo⟩
    · have hst := pops_live hJl (by rw [ht.2]; exact h.lived hL) (by rw [f2]; exact h.zst hL) hcar.2 he
      rw [f2] at hst
      have hq := h.popst hst hth (o := []) hbm
      have hg := hG C.code.length (Nat.le_refl _)
      rw [if_pos ⟨rfl, hL⟩, ← hq.2.2.2] at hg
      have hJX : JX G' C.code.length C.st ⟨c.op, (lab C l).head, (lab C l).carry.length, (lab C l).height⟩ := by rw [hst]; exact jx_goal hq.2.2.1 hg
      exact ⟨fun hh => by dsimp only at hh; omega, fun hh => by dsimp only at hh; omega, fun hh => by dsimp only at hh; omega, fun _ => hJX, fun hh => by dsimp only at hh; omega, fun hh => by dsimp only at hh; omega, fun hh => by dsimp only at hh; omega, fun hh => by dsimp only at hh; omega, fun hh => by dsimp only at hh; omega, fun hh => by dsimp only at hh; omega, fun hh => by dsimp only at hh; omega, fun hh => by dsimp only at hh; omega⟩
  · rw [if_neg (by omega)] at he ⊢
    have hp := pops_P (l := (lab C l).carry ++ [105]) hJl
    obtain ⟨x, hx⟩ := hp.pre
    rw [f2] at hx
    have hth := hp.ht
    rw [ht.1] at hth
    obtain ⟨Q, hQ⟩ : ∃ Q, (swap J ((lab C l).carry ++ [105]) (lab C l).carry).1 = Q := ⟨_, rfl⟩
    have hQc : Q.code = C.code ++ [⟨c.op, (lab C l).head, (lab C l).carry.length, (lab C l).height⟩] := by rw [← hQ]; show (pops J _).1.code = _; rw [hp.code, f1]
    have hQs : Q.st = (pops J ((lab C l).carry ++ [105])).1.st ++ (lab C l).carry := by rw [← hQ]; rfl
    have hQo : Q.opn = J.opn := by rw [← hQ]; show (pops J _).1.opn = _; rw [hp.opn]
    have hO : OR C Q (fun a j => (lab C l).head < 0 ∧ a = C.code.length ∧ j = C.opn.length - 1 - l) := f4.thenSame hQo
    rw [hQ]
    refine h.lay (es := []) hQc hO (fun b hb => ?_) ?_ (fun hl' => ?_) (fun a j hw => ?_) (fun a i j hi hj => hi.2.2.trans hj.2.2.symm) (fun a => if a = C.code.length ∧ Live C then some (C.st.take (lab C l).height ++ (lab C l).carry) else none) (g2 Q hQc) (fun hL T' G' hT hG => ?_)
    · have := h.popst hx hth (o := (lab C l).carry) hb
      rw [hQs]; exact ⟨this.1, this.2.1⟩
    · rw [hQs, List.length_append]
      have := h.stn
      have hlx := congrArg List.length hx
      rw [List.length_append] at hlx
      omega
    · have hz := h.zst (hO.liveC hl')
      rw [hQs]
      intro t ht
      rcases List.mem_append.1 ht with ht | ht
      · exact hz t (by rw [hx]; exact List.mem_append_left _ ht)
      · exact hcar.2 t ht
    · obtain ⟨_, rfl, _⟩ := hw
      exact ⟨Nat.le_refl _, _, by rw [hQc]; exact hcget [], hjo⟩
    · have hst := pops_live hJl (by rw [ht.2]; exact h.lived hL) (by rw [f2]; exact h.zst hL) (fun t ht => by
        rcases List.mem_append.1 ht with ht | ht
        · exact hcar.2 t ht
        · simp at ht; exact .inl ht) he
      rw [f2] at hst
      have hq := h.popst hst hth (o := []) hbm
      have hg := hG C.code.length (Nat.le_refl _)
      rw [if_pos ⟨rfl, hL⟩, ← hq.2.2.2] at hg
      have hLQ : Live Q := live_strip (by rw [hQo]; exact hs) hL
      have hT' := hT hLQ
      rw [hQc, hQs, List.length_append] at hT'
      have h7' : ∃ τ', C.st = τ' ++ [105] ∧ T' (C.code.length + 1) = some τ' ∧ JX G' C.code.length τ' ⟨c.op, (lab C l).head, (lab C l).carry.length, (lab C l).height⟩ := ⟨_, by rw [hst]; simp, hT', jx_goal hq.2.2.1 hg⟩
      exact ⟨fun hh => by dsimp only at hh; omega, fun hh => by dsimp only at hh; omega, fun hh => by dsimp only at hh; omega, fun hh => by dsimp only at hh; omega, fun _ => h7', fun hh => by dsimp only at hh; omega, fun hh => by dsimp only at hh; omega, fun hh => by dsimp only at hh; omega, fun hh => by dsimp only at hh; omega, fun hh => by dsimp only at hh; omega, fun hh => by dsimp only at hh; omega, fun hh => by dsimp only at hh; omega⟩
end Go.Wl
