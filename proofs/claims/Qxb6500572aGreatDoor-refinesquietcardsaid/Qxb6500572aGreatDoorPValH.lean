/- Tables. -/
import Derived.Test.Qxb6500572aGreatDoorPValG
namespace Go.Wl
open Go Go.Sl
set_option linter.unusedVariables false
variable {P : Prog} {u : Fun} {n : Nat} {C C1 C2 C' : Chk} {T T' : Typ} {G G' : Goals} {fs : List Fun} {c : Ins} {w : Nat → Nat → Prop}
def ent (C : Chk) (t : UInt8) : Flat := ⟨6, (lab C t.toNat).head, (lab C t.toNat).carry.length, (lab C t.toNat).height⟩
def tabW (C : Chk) (base : Nat) (l : List UInt8) (a j : Nat) : Prop := ∃ (i : Nat) (t : UInt8), l[i]? = some t ∧ (lab C t.toNat).head < 0 ∧ a = base + i ∧ j = C.opn.length - 1 - t.toNat
theorem lab_strip (h : C'.opn.map Blk.strip = C.opn.map Blk.strip) (t : Nat) : (lab C' t).head = (lab C t).head ∧ (lab C' t).carry = (lab C t).carry ∧ (lab C' t).height = (lab C t).height := by
  have hlen : C'.opn.length = C.opn.length := by have := congrArg List.length h; simpa using this
  have := strip_fields (strip_getD h (C.opn.length - 1 - t))
  unfold lab; rw [hlen]
  exact ⟨this.2.2.2.1, this.2.1, this.2.2.1⟩
theorem jumps_facts : ∀ (l : List UInt8) (C : Chk), (∀ t, t ∈ l → t.toNat < C.opn.length) → (jumps C l).code = C.code ++ l.map (ent C) ∧ (jumps C l).st = C.st ∧ (jumps C l).opn.map Blk.strip = C.opn.map Blk.strip ∧ OR C (jumps C l) (tabW C C.code.length l)
  | [], C, _ => ⟨by simp [jumps], rfl, rfl, rfl, fun j b hb => ⟨b, hb, rfl, rfl, rfl, rfl, rfl, fun _ => rfl, fun x => x, fun a => ⟨.inl, fun h => by rcases h with h | ⟨i, t, hi, _⟩; exact h; simp at hi⟩⟩⟩
  | t :: l, C, h => by
    have ht := h t List.mem_cons_self
    obtain ⟨f1, f2, f3, f4⟩ := jump_facts (op := 6) ht
    have hs := jump_strip C 6 t.toNat
    have hlen : (jump C 6 t.toNat).1.opn.length = C.opn.length := f4.len
    obtain ⟨g1, g2, g3, g4⟩ := jumps_facts l (jump C 6 t.toNat).1 (fun x hx => by rw [hlen]; exact h x (List.mem_cons_of_mem _ hx))
    have hent : ∀ x, ent (jump C 6 t.toNat).1 x = ent C x := fun x => by
      have := lab_strip hs x.toNat
      unfold ent; rw [this.1, this.2.1, this.2.2]
    refine ⟨?_, g2.trans f2, g3.trans hs, ?_⟩
    · show (jumps (jump C 6 t.toNat).1 l).code = _
      rw [g1, f1, List.map_congr_left (fun x _ => hent x)]
      simp [ent]
    · have := f4.trans g4
      refine ⟨this.len, fun j b hb => ?_⟩
      obtain ⟨b', k1, k2, k3, k4, k5, k6, k7, k8, k9⟩ := this.each j b hb
      refine ⟨b', k1, k2, k3, k4, k5, k6, k7, k8, fun a => ?_⟩
      rw [k9]
      constructor
      · rintro (q | ⟨q1, q2, q3⟩ | ⟨i, x, q1, q2, q3, q4⟩)
        · exact .inl q
        · exact .inr ⟨0, t, rfl, q1, by omega, q3⟩
        · refine .inr ⟨i + 1, x, by simpa using q1, ?_, ?_, ?_⟩
          · rw [← (lab_strip hs x.toNat).1]; exact q2
          · rw [q3, f1]; simp; omega
          · rw [q4, hlen]
      · rintro (q | ⟨i, x, q1, q2, q3, q4⟩)
        · exact .inl q
        · cases i with
          | zero =>
            simp at q1; subst q1
            exact .inr (.inl ⟨q2, by omega, q4⟩)
          | succ i =>
            refine .inr (.inr ⟨i, x, by simpa using q1, ?_, ?_, ?_⟩)
            · rw [(lab_strip hs x.toNat).1]; exact q2
            · rw [q3, f1]; simp; omega
            · rw [q4, hlen]
open Classical in
theorem VI.table (h : VI P u n C T G) (hop : c.op = 8) (hn1 : 1 ≤ c.tab.length ∧ c.tab.length ≤ 5) (he : (table C c).2 = 0) : ∃ T' G', VI P u (n + 1) (table C c).1 T' G' ∧ TLe T T' := by
  unfold Wl.table at he ⊢
  split at he
  · cases he
  rename_i hany
  rw [if_neg hany]
  dsimp only at he ⊢
  have hlt : ∀ t, t ∈ c.tab → t.toNat < C.opn.length := fun t ht => by
    by_cases hh : t.toNat < C.opn.length
    · exact hh
    · exact absurd (List.any_eq_true.2 ⟨t, ht, by simpa using hh⟩) hany
  obtain ⟨H, hH⟩ : ∃ H, hole C ⟨8, (c.tab.length : Int) - 1, 0, 0⟩ = H := ⟨_, rfl⟩
  have hHo : H.opn = C.opn := by rw [← hH]; rfl
  have hHs : H.st = C.st := by rw [← hH]; rfl
  have hHc : H.code = C.code ++ [⟨8, (c.tab.length : Int) - 1, 0, 0⟩] := by rw [← hH]; rfl
  obtain ⟨f1, f2, f3, f4⟩ := jumps_facts c.tab H (fun t ht => by rw [hHo]; exact hlt t ht)
  have hlabH : ∀ t, lab H t = lab C t := fun t => by unfold lab; rw [hHo]
  have hentH : ∀ t, ent H t = ent C t := fun t => by unfold ent; rw [hlabH]
  rw [hH] at he ⊢
  obtain ⟨J, hJ⟩ : ∃ J, jumps H c.tab = J := ⟨_, rfl⟩
  rw [hJ] at f1 f2 f3 f4 he ⊢
  rw [hHc, List.map_congr_left (fun x _ => hentH x), List.append_assoc, List.singleton_append] at f1
  rw [hHs] at f2
  rw [hHo] at f3
  obtain ⟨d, hd⟩ : ∃ d, (C.opn.getD (C.opn.length - 1 - (c.tab.getD (c.tab.length - 1) 0).toNat) Blk.nil).carry = d := ⟨_, rfl⟩
  rw [hd] at he ⊢
  have hsm : sames C d c.tab = true ∧ (leaves J (d ++ [105])).2 = 0 := by
    split at he
    · rename_i hs; exact ⟨hs, he⟩
    · cases he
  have hcar : ∀ t, t ∈ c.tab → (lab C t.toNat).carry = d := fun t ht => by
    have := List.all_eq_true.1 hsm.1 t ht
    exact of_decide_eq_true this
  have hlastm : c.tab.getD (c.tab.length - 1) 0 ∈ c.tab := by
    rw [List.getD_eq_getElem?_getD, List.getElem?_eq_getElem (by omega)]; exact List.getElem_mem _
  have hdty : d.length ≤ 1 ∧ ty2 d := by
    rw [← hcar _ hlastm]; exact h.carry (h.labm (hlt _ hlastm))
  -- the blocks
  have hO1 : OR C J (tabW C (C.code.length + 1) c.tab) := by
    refine ⟨by rw [f4.len, hHo], fun j b hb => ?_⟩
    obtain ⟨b', k1, k2, k3, k4, k5, k6, k7, k8, k9⟩ := f4.each j b (by rw [hHo]; exact hb)
    refine ⟨b', k1, k2, k3, k4, k5, k6, fun hh => k7 (by rw [hHo]; exact hh), k8, fun a => ?_⟩
    rw [k9]
    unfold tabW
    simp only [hlabH, hHo, hHc, List.length_append, List.length_singleton]
  have ht : J.top.height = C.top.height ∧ J.top.dead = C.top.dead := by
    have := strip_fields (strip_top (C := C) (C' := J) f3)
    exact ⟨this.2.2.1, this.2.2.2.2.1⟩
  have hJl : J.top.height ≤ J.st.length := by rw [ht.1, f2]; exact h.topl
  have hp := pops_P (l := d ++ [105]) hJl
  obtain ⟨x, hx⟩ := hp.pre
  rw [f2] at hx
  have hth := hp.ht
  rw [ht.1] at hth
  have he' := hsm.2
  obtain ⟨Q, hQ⟩ : ∃ Q, (leaves J (d ++ [105])).1 = Q := ⟨_, rfl⟩
  have hQc : Q.code = C.code ++ ⟨8, (c.tab.length : Int) - 1, 0, 0⟩ :: c.tab.map (ent C) := by rw [← hQ]; show (pops J _).1.code = _; rw [hp.code, f1]
  have hQs : Q.st = (pops J (d ++ [105])).1.st.take C.top.height := by rw [← hQ]; show (pops J _).1.st.take (pops J (d ++ [105])).1.top.height = _; rw [hp.top, ht.1]
  have hQo : Q.opn = (J.setTop { J.top with dead := true }).opn := by rw [← hQ]; show ((pops J _).1.setTop _).opn = _; unfold Chk.setTop; dsimp only; rw [hp.opn, hp.top]
  have hO : OR C Q (tabW C (C.code.length + 1) c.tab) := hO1.thenDead h.ne hQo
  have hnl : ¬ Live Q := dead_live (Pop.refl hJl) (by intro e; have := hO1.len; rw [e] at this; exact h.ne (List.eq_nil_of_length_eq_zero (by simpa using this.symm))) hQo
  have hget : ∀ (i : Nat) (t : UInt8), c.tab[i]? = some t → Q.code[C.code.length + 1 + i]? = some (ent C t) := fun i t hi => by
    rw [hQc, List.getElem?_append_right (by omega), show C.code.length + 1 + i - C.code.length = i + 1 by omega, List.getElem?_cons_succ, List.getElem?_map, hi]; rfl
  rw [hQ]
  refine h.lay (es := c.tab.map (ent C)) hQc hO (fun b hb => ?_) ?_ (fun hl' => absurd hl' hnl) (fun a j hw => ?_) (fun a i j hi hj => ?_)
    (fun a => if C.code.length + 1 ≤ a ∧ Live C then (c.tab[a - (C.code.length + 1)]?).map (fun t => C.st.take (lab C t.toNat).height ++ (lab C t.toNat).carry) else none) (fun a t ha hg => ?_) (fun hL T' G' _ hG => ?_)
  · have hb1 := h.toph hb
    have := h.popst hx hth (o := []) hb
    rw [hQs, List.take_take, Nat.min_eq_left hb1, List.length_take]
    exact ⟨this.2.2.2, by omega⟩
  · rw [hQs, List.length_take]; have := h.topl; have := h.stn; omega
  · obtain ⟨i, t, q1, q2, rfl, q4⟩ := hw
    exact ⟨by omega, _, hget i t q1, by unfold jop ent; simp⟩
  · obtain ⟨i1, t1, q1, q2, q3, q4⟩ := hi
    obtain ⟨i2, t2, r1, r2, r3, r4⟩ := hj
    have : i1 = i2 := by omega
    subst this
    rw [q1] at r1; cases r1
    rw [q4, r4]
  · split at hg
    · rename_i hh
      obtain ⟨hge, hL⟩ := hh
      cases hi : c.tab[a - (C.code.length + 1)]? with
      | none => rw [hi] at hg; cases hg
      | some y =>
        rw [hi] at hg
        have hg' := (Option.some.inj hg).symm
        have hil := (List.getElem?_eq_some_iff.1 hi).1
        have hym := List.mem_of_getElem? hi
        refine ⟨by rw [hQc]; simp; omega, ?_⟩
        have ea : a = C.code.length + 1 + (a - (C.code.length + 1)) := by omega
        have hW : (∃ j, tabW C (C.code.length + 1) c.tab a j) ↔ (lab C y.toNat).head < 0 := by
          constructor
          · rintro ⟨j, i, t', q1, q2, q3, q4⟩
            have : i = a - (C.code.length + 1) := by omega
            rw [this, hi] at q1; cases q1; exact q2
          · exact fun hh => ⟨_, _, y, hi, hh, ea, rfl⟩
        rcases h.goal (hlt y hym) hL hg' (a := 0) hW with ⟨q1, q2, q3, q4⟩ | ⟨q1, q2, q3⟩
        · exact .inl ⟨_, _, ⟨_, y, hi, hW.1 q1, ea, rfl⟩, q2, q3, q4⟩
        · exact .inr ⟨fun j hw => q1 ⟨j, hw⟩, ent C y, by rw [ea]; exact hget _ y hi, q2, q3, by unfold ent; simp⟩
    · cases hg
  · have hst := pops_live hJl (by rw [ht.2]; exact h.lived hL) (by rw [f2]; exact h.zst hL) (fun t ht => by
      rcases List.mem_append.1 ht with ht | ht
      · exact hdty.2 t ht
      · simp at ht; exact .inl ht) he'
    rw [f2] at hst
    have h8 : ∃ τ', C.st = τ' ++ [105] ∧ (0 : Int) ≤ (c.tab.length : Int) - 1 ∧ (c.tab.length : Int) - 1 ≤ 1000 ∧ ∀ k : Nat, (k : Int) ≤ (c.tab.length : Int) - 1 → ∃ e, Q.code[C.code.length + 1 + k]? = some e ∧ e.op = 6 ∧ JX G' (C.code.length + 1 + k) τ' e := by
      refine ⟨(pops J (d ++ [105])).1.st ++ d, by rw [List.append_assoc]; exact hst, by omega, by omega, fun k hk => ?_⟩
      have hkl : k < c.tab.length := by omega
      have hi : c.tab[k]? = some c.tab[k] := List.getElem?_eq_getElem hkl
      have hym : c.tab[k] ∈ c.tab := List.getElem_mem hkl
      refine ⟨_, hget k _ hi, rfl, ?_⟩
      have hq := h.popst hst hth (o := []) (h.labm (hlt _ hym))
      have hg := hG (C.code.length + 1 + k) (by omega)
      rw [if_pos ⟨by omega, hL⟩, Nat.add_sub_cancel_left, hi] at hg
      have hg' : G' (C.code.length + 1 + k) = some ((pops J (d ++ [105])).1.st.take (lab C c.tab[k].toNat).height ++ d) := by
        rw [hg, hq.2.2.2, ← hcar _ hym]; rfl
      have := jx_goal (op := 6) (x := (lab C c.tab[k].toNat).head) hq.2.2.1 hg'
      unfold ent
      rw [hcar _ hym]
      exact this
    exact ⟨fun hh => by dsimp only at hh; omega, fun hh => by dsimp only at hh; omega, fun hh => by dsimp only at hh; omega, fun hh => by dsimp only at hh; omega, fun hh => by dsimp only at hh; omega, fun _ => h8, fun hh => by dsimp only at hh; omega, fun hh => by dsimp only at hh; omega, fun hh => by dsimp only at hh; omega, fun hh => by dsimp only at hh; omega, fun hh => by dsimp only at hh; omega, fun hh => by dsimp only at hh; omega⟩
end Go.Wl
