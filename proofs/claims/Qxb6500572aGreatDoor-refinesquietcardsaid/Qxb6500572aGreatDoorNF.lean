/- The two validators: an else. -/
import Derived.Test.Qxb6500572aGreatDoorNE
namespace Go.Wl
open Go Go.Sl
set_option linter.unusedVariables false
variable {src : List Ins} {i : Nat} {o : List Int} {C C' C1 : Chk} {K K' : Km} {code : List Flat} {c : Ins}
/-- Once in its else arm, a block has no other else. -/
theorem endsR_keep : ∀ {l : List Ins} {o : List Int} {j d : Nat} {els : Int}, nest l o = 0 → d < o.length → o[o.length - 1 - d]? = some 4 → (endsR l j els d).1 = els
  | [], o, j, d, els, hn, _, _ => by simp [nest] at hn
  | c :: l, o, j, d, els, hn, hd, h4 => by
    have hw := nest_well hn
    simp only [nest, hw, if_true] at hn
    unfold endsR
    by_cases h1 : c.op = 1 ∨ c.op = 2 ∨ c.op = 3
    · rw [if_pos h1] at hn ⊢
      split at hn
      · cases hn
      · refine endsR_keep hn (by simp; omega) ?_
        rw [List.length_append, List.length_singleton, show o.length + 1 - 1 - (d + 1) = o.length - 1 - d by omega, List.getElem?_append_left (by omega)]
        exact h4
    rw [if_neg h1] at hn ⊢
    by_cases h2 : c.op = 4
    · rw [if_pos h2] at hn ⊢
      split at hn
      · rename_i hlast
        have hd0 : d ≠ 0 := by
          rintro rfl
          rw [List.getLast?_eq_getElem?, show o.length - 1 = o.length - 1 - 0 by omega, h4] at hlast
          simp at hlast
        rw [if_neg hd0]
        refine endsR_keep hn (by simp; omega) ?_
        rw [List.length_append, List.length_dropLast, List.length_singleton, show o.length - 1 + 1 - 1 - d = o.length - 1 - d by omega, List.getElem?_append_left (by rw [List.length_dropLast]; omega), List.getElem?_dropLast, if_pos (by omega)]
        exact h4
      · cases hn
    rw [if_neg h2] at hn ⊢
    by_cases h3 : c.op = 5
    · rw [if_pos h3] at hn ⊢
      split
      · rfl
      · rename_i hd0
        rw [if_neg (by intro e; subst e; simp at hd)] at hn
        refine endsR_keep hn (by rw [List.length_dropLast]; omega) ?_
        rw [List.length_dropLast, show o.length - 1 - 1 - (d - 1) = o.length - 1 - d by omega, List.getElem?_dropLast, if_pos (by omega)]
        exact h4
    · rw [if_neg h3] at hn ⊢
      exact endsR_keep hn hd h4
theorem KR.topop (h : KR src i o C K code) (ho : 0 < o.length) : o.getLast? = some K.top.op ∧ Scan src i K.top 0 := by
  have hol := h.ol
  have := h.scn (K.cs.length - 1) K.top h.tops.2 (by omega)
  refine ⟨?_, ?_⟩
  · rw [List.getLast?_eq_getElem?, ← this.2]; congr 1; omega
  · have h2 := this.1
    rwa [show K.cs.length - 1 - (K.cs.length - 1) = 0 by omega] at h2
/-- Closing, on both sides. -/
theorem KR.closes (h : KR src i o C K code) : (closes C).1 = { C with st := (closes C).1.st } ∧ (closesM K).1 = { K with st := (closes C).1.st } ∧ typedM (closesM K).2 = (closes C).2 ∧ ((closes C).2 = 0 ∨ (closes C).2 = 6) ∧ ((closesM K).2 = decide ((closes C).2 = 0)) := by
  obtain ⟨p1, p2, p3⟩ := syn_pops h.syn C.top.res
  have hr := h.top.res
  have hh := h.top.ht
  unfold Wl.closes closesM
  rw [← hr, ← hh, p1]
  dsimp only
  refine ⟨p3, rfl, ?_, ?_, ?_⟩
  · by_cases hl : (pops C C.top.res).1.st.length = C.top.height
    · rw [if_pos hl, decide_eq_true hl, Bool.and_true]; exact typed_dec p2
    · rw [if_neg hl, decide_eq_false hl, Bool.and_false]; rfl
  · by_cases hl : (pops C C.top.res).1.st.length = C.top.height
    · rw [if_pos hl]; exact p2
    · rw [if_neg hl]; exact .inr rfl
  · by_cases hl : (pops C C.top.res).1.st.length = C.top.height
    · rw [if_pos hl, decide_eq_true hl, Bool.and_true]
    · rw [if_neg hl, decide_eq_false hl, Bool.and_false]; rfl
theorem KR.turn (h : KR src i o C K code) (hi : i < src.length) (hc : src[i] = c) (hop : c.op = 4) (h3 : o.getLast? = some 3) (hne : nest (src.drop (i + 1)) (o.dropLast ++ [4]) = 0) :
    (turnM K src code).2.2 = (Wl.turn C).2 ∧ ((Wl.turn C).2 = 0 → KR src (i + 1) (o.dropLast ++ [4]) (Wl.turn C).1 (turnM K src code).1 (turnM K src code).2.1) := by
  have hop' : src[i].op = 4 := by rw [hc]; exact hop
  have ho : 0 < o.length := by cases o with
    | nil => simp at h3
    | cons x l => simp
  obtain ⟨t1, t2⟩ := h.topop ho
  have htop : K.top.op = 3 := by rw [h3] at t1; simpa using t1.symm
  obtain ⟨q1, q2, q3, q4, q5⟩ := h.closes
  have hb := h.top
  obtain ⟨al, hal⟩ : ∃ a, C.top.alt = some a := by
    have := hb.alt.2 htop
    exact Option.isSome_iff_exists.1 this
  obtain ⟨tc1, tc2⟩ := h.tops
  have hp := h.pos
  have hl := h.len
  have hol := h.ol
  have hcm : code.length = C.code.length := by rw [h.ml, h.cl]
  have hz : szOf src[i] = 1 := by rw [hc]; unfold szOf; rw [if_neg (by omega), if_neg (by omega)]
  have ht1 : (Wl.closes C).1.top = C.top := by unfold Chk.top; rw [q1]
  have hk1 : (closesM K).1.top = K.top := by unfold Km.top; rw [q2]
  have halC : al < C.code.length := h.pl C.top (List.mem_of_getElem? tc1) al (.inr hal)
  have e1 : (Wl.turn C).1 = ⟨(Wl.closes C).1.st, C.opn.set (C.opn.length - 1) { C.top with wait := C.top.wait ++ [C.code.length], alt := none, dead := false }, (C.code ++ [(⟨4, -1, 0, 0⟩ : Flat)]).modify al (fun f => { f with imm := ((C.code.length + 1 : Nat) : Int) })⟩ := by
    rw [turn_eq, ht1, hal]
    unfold fillO fill hole Chk.setTop
    dsimp only
    rw [q1]
    simp
  have e2 : (Wl.turn C).2 = (Wl.closes C).2 := rfl
  have e3 : turnM K src code = (⟨(Wl.closes C).1.st, K.cs.set (K.cs.length - 1) { K.top with op := 4, dead := false }⟩, code ++ [⟨4, (posOf src (ends src K.top.at_.toNat).2.toNat : Nat), 0, 0⟩], (Wl.closes C).2) := by
    unfold turnM Km.setTop
    rw [hk1, q3, q2]
  rw [e3, e2]
  refine ⟨rfl, fun _ => ?_⟩
  dsimp only
  rw [e1]
  obtain ⟨els, hen, hel1, hel2⟩ := t2.sc
  have hels : els = -1 := hel1 (by omega)
  subst hels
  have hend : ends src K.top.at_.toNat = endsR (src.drop (i + 1)) (i + 1) i 0 := by rw [hen, endsR_else0 hi hop']
  have hfst : (ends src K.top.at_.toNat).1 = i := by
    rw [hend]
    refine endsR_keep hne (by simp) ?_
    rw [List.length_append, List.length_singleton, show o.dropLast.length + 1 - 1 - 0 = o.dropLast.length by omega, List.getElem?_append_right (Nat.le_refl _), Nat.sub_self]; rfl
  obtain ⟨nb, hnb⟩ : ∃ b : Blk, { C.top with wait := C.top.wait ++ [C.code.length], alt := none, dead := false } = b := ⟨_, rfl⟩
  obtain ⟨nc, hnc⟩ : ∃ b : Ctl, { K.top with op := 4, dead := false } = b := ⟨_, rfl⟩
  rw [hnb, hnc]
  have nat_ : nc.at_ = K.top.at_ := by rw [← hnc]
  have nop : nc.op = 4 := by rw [← hnc]
  have nendM : endM src nc = (ends src K.top.at_.toNat).2 := by unfold endM; rw [nop, nat_, if_neg (by decide), if_pos t2.at0]
  have oendM : endM src K.top = (ends src K.top.at_.toNat).2 := by unfold endM; rw [htop, if_neg (by decide), if_pos t2.at0]
  have bcase : ∀ {j : Nat} {b : Blk}, (C.opn.set (C.opn.length - 1) nb)[j]? = some b → (j ≠ C.opn.length - 1 ∧ C.opn[j]? = some b) ∨ (j = C.opn.length - 1 ∧ b = nb) := fun {j b} hb' => by
    by_cases hj : C.opn.length - 1 = j
    · subst hj
      rw [List.getElem?_set_self (by omega)] at hb'
      simp only [Option.some.injEq] at hb'
      exact .inr ⟨rfl, hb'.symm⟩
    · rw [List.getElem?_set_ne hj] at hb'; exact .inl ⟨fun e => hj e.symm, hb'⟩
  have ccase : ∀ {j : Nat} {b : Ctl}, (K.cs.set (K.cs.length - 1) nc)[j]? = some b → (j ≠ K.cs.length - 1 ∧ K.cs[j]? = some b) ∨ (j = K.cs.length - 1 ∧ b = nc) := fun {j b} hb' => by
    by_cases hj : K.cs.length - 1 = j
    · subst hj
      rw [List.getElem?_set_self (by omega)] at hb'
      simp only [Option.some.injEq] at hb'
      exact .inr ⟨rfl, hb'.symm⟩
    · rw [List.getElem?_set_ne hj] at hb'; exact .inl ⟨fun e => hj e.symm, hb'⟩
  have hget : ∀ {a : Nat} {y f : Flat}, code[a]? = some y → (code ++ [f])[a]? = some y := fun {a y f} hy => by rw [List.getElem?_append_left (List.getElem?_eq_some_iff.1 hy).1]; exact hy
  have nbw : ∀ a, a ∈ nb.wait ↔ a ∈ C.top.wait ∨ a = C.code.length := fun a => by rw [← hnb]; simp
  have nba : nb.alt = none := by rw [← hnb]
  have tmem : C.top ∈ C.opn := List.mem_of_getElem? tc1
  refine ⟨rfl, ?_, ?_, ?_, ?_, ?_, ?_, ?_, ?_, ?_, ?_, ?_, ?_⟩
  · show (C.opn.set _ _).length = (K.cs.set _ _).length; rw [List.length_set, List.length_set]; exact hl
  · show (K.cs.set _ _).length = _; rw [List.length_set, List.length_append, List.length_dropLast, List.length_singleton]; omega
  · intro j b c1 hb1 hc1
    rcases bcase hb1 with ⟨j1, hb2⟩ | ⟨j1, rfl⟩ <;> rcases ccase hc1 with ⟨j2, hc2⟩ | ⟨j2, rfl⟩
    · exact h.bl j b c1 hb2 hc2
    · omega
    · omega
    · rw [← hnb, ← hnc]
      refine ⟨hb.res, ?_, hb.ht, rfl, ?_, by simp⟩
      · show C.top.carry = _; rw [hb.carry]; unfold labelM; rw [if_neg (by rw [htop]; decide), if_neg (show ¬ (4:Int) = 2 by decide)]
      · show C.top.head = _; rw [hb.head, if_neg (by rw [htop]; decide), if_neg (show ¬ (4:Int) = 2 by decide)]
  · intro j c1 hc1 hj
    show Scan src (i + 1) c1 ((K.cs.set _ _).length - 1 - j) ∧ _
    rw [List.length_set]
    rcases ccase hc1 with ⟨j2, hc2⟩ | ⟨j2, rfl⟩
    · have hjl := (List.getElem?_eq_some_iff.1 hc2).1
      obtain ⟨⟨h1, h2, h4, els, h5, h6⟩, h7⟩ := h.scn j c1 hc2 hj
      refine ⟨⟨h1, by omega, h4, els, by rw [h5, endsR_else hi hop' (by omega)], h6⟩, ?_⟩
      rw [List.getElem?_append_left (by rw [List.length_dropLast]; omega), List.getElem?_dropLast, if_pos (by omega)]
      exact h7
    · refine ⟨⟨by rw [nat_]; exact t2.at0, by rw [nat_]; have := t2.atl; omega, by rw [nop]; simp, i, ?_, fun h4 => absurd nop h4, fun _ => by omega⟩, ?_⟩
      · rw [nat_, hend, j2, show K.cs.length - 1 - (K.cs.length - 1) = 0 by omega]
      · rw [j2, List.getElem?_append_right (by rw [List.length_dropLast]; omega), List.length_dropLast, nop, show K.cs.length - 1 - 1 - (o.length - 1) = 0 by omega]; rfl
  · intro c1 hc1
    rcases ccase hc1 with ⟨j2, hc2⟩ | ⟨j2, rfl⟩
    · exact h.bot c1 hc2
    · omega
  · show ((C.code ++ [_]).modify _ _).length = _; rw [List.length_modify, List.length_append, h.cl, posOf_succ hi, hz]; rfl
  · show (code ++ [_]).length = _; rw [List.length_append, h.ml, posOf_succ hi, hz]; rfl
  · intro a x y hx hy
    have hx : ((C.code ++ [(⟨4, -1, 0, 0⟩ : Flat)]).modify al (fun f => { f with imm := ((C.code.length + 1 : Nat) : Int) }))[a]? = some x := hx
    rw [List.getElem?_modify] at hx
    by_cases ha : a < C.code.length
    · rw [List.getElem?_append_left ha] at hx
      rw [List.getElem?_append_left (by omega)] at hy
      rw [List.getElem?_eq_getElem ha] at hx
      obtain ⟨h1, h2, h4, h5⟩ := h.cd a C.code[a] y (List.getElem?_eq_getElem ha) hy
      by_cases hae : al = a
      · subst hae
        simp only [if_true, Option.map_eq_map, Option.map_some, Option.some.injEq] at hx
        subst hx
        refine ⟨h1, h2, h4, fun _ => ?_⟩
        obtain ⟨y', hy', hyi⟩ := h.al _ _ _ al tc1 (by rw [hl]; exact tc2) hal
        rw [hy'] at hy
        simp only [Option.some.injEq] at hy
        subst hy
        rw [hyi]
        unfold altT
        rw [hfst, if_pos (by omega), show ((i : Int) + 1).toNat = i + 1 by omega, posOf_succ hi, hz, h.cl]
      · simp only [if_neg hae, Option.map_eq_map, Option.map_some, Option.some.injEq] at hx
        subst hx
        refine ⟨h1, h2, h4, fun hpn => h5 fun b hb1 => ?_⟩
        obtain ⟨j, hj⟩ := List.getElem?_of_mem hb1
        by_cases hjt : j = C.opn.length - 1
        · subst hjt
          have : b = C.top := by rw [tc1] at hj; simpa using hj.symm
          subst this
          have hn := hpn nb (List.mem_of_getElem? (List.getElem?_set_self (by omega)))
          refine ⟨fun hm => hn.1 ((nbw a).2 (.inl hm)), fun hm => hae ?_⟩
          rw [hal] at hm; simpa using hm
        · exact hpn b (List.mem_of_getElem? (by rw [List.getElem?_set_ne (fun e => hjt e.symm)]; exact hj))
    · rw [List.getElem?_append_right (by omega)] at hx
      rw [List.getElem?_append_right (by omega), hcm] at hy
      simp only [if_neg (show ¬ al = a by omega)] at hx
      cases hk : a - C.code.length with
      | succ k => rw [hk] at hx; simp at hx
      | zero =>
        rw [hk] at hx hy
        simp only [List.getElem?_cons_zero, Option.map_eq_map, Option.map_some, Option.some.injEq] at hx hy
        subst hx hy
        refine ⟨rfl, rfl, rfl, fun hpn => ?_⟩
        have hn := hpn nb (List.mem_of_getElem? (List.getElem?_set_self (by omega)))
        exact absurd ((nbw a).2 (.inr (by omega))) hn.1
  · intro j b c1 a hb1 hc1 ha
    rcases bcase hb1 with ⟨j1, hb2⟩ | ⟨j1, rfl⟩ <;> rcases ccase hc1 with ⟨j2, hc2⟩ | ⟨j2, rfl⟩
    · obtain ⟨h2, y, h4, h5⟩ := h.wt j b c1 a hb2 hc2 ha
      exact ⟨h2, y, hget h4, h5⟩
    · omega
    · omega
    · refine ⟨by rw [nop]; decide, ?_⟩
      rw [nendM]
      rcases (nbw a).1 ha with hm | rfl
      · obtain ⟨_, y, h4, h5⟩ := h.wt _ _ _ a tc1 (by rw [hl]; exact tc2) hm
        exact ⟨y, hget h4, by rw [h5, oendM]⟩
      · exact ⟨_, by rw [← hcm, List.getElem?_append_right (Nat.le_refl _), Nat.sub_self]; rfl, rfl⟩
  · intro j b c1 a hb1 hc1 ha
    rcases bcase hb1 with ⟨j1, hb2⟩ | ⟨j1, rfl⟩ <;> rcases ccase hc1 with ⟨j2, hc2⟩ | ⟨j2, rfl⟩
    · obtain ⟨y, h4, h5⟩ := h.al j b c1 a hb2 hc2 ha
      exact ⟨y, hget h4, h5⟩
    · omega
    · omega
    · rw [nba] at ha; cases ha
  · intro j1 j2 b1 b2 a hb1 hb2 ha1 ha2
    have up : ∀ {a : Nat}, (a ∈ nb.wait ∨ nb.alt = some a) → (a ∈ C.top.wait ∨ C.top.alt = some a) ∨ a = C.code.length := fun {a} hx => by
      rcases hx with hx | hx
      · rcases (nbw a).1 hx with h1 | h1
        · exact .inl (.inl h1)
        · exact .inr h1
      · rw [nba] at hx; cases hx
    rcases bcase hb1 with ⟨k1, hc1⟩ | ⟨k1, rfl⟩ <;> rcases bcase hb2 with ⟨k2, hc2⟩ | ⟨k2, rfl⟩
    · exact h.dis j1 j2 b1 b2 a hc1 hc2 ha1 ha2
    · rcases up ha2 with h1 | h1
      · rw [k2]; exact h.dis j1 _ b1 C.top a hc1 tc1 ha1 h1
      · have := h.pl b1 (List.mem_of_getElem? hc1) a ha1; omega
    · rcases up ha1 with h1 | h1
      · rw [k1]; exact h.dis _ j2 C.top b2 a tc1 hc2 h1 ha2
      · have := h.pl b2 (List.mem_of_getElem? hc2) a ha2; omega
    · omega
  · intro b hb1 a ha
    show a < ((C.code ++ [_]).modify _ _).length
    rw [List.length_modify, List.length_append, List.length_singleton]
    obtain ⟨j, hj⟩ := List.getElem?_of_mem hb1
    rcases bcase hj with ⟨j1, hb2⟩ | ⟨j1, rfl⟩
    · have := h.pl b (List.mem_of_getElem? hb2) a ha; omega
    · rcases ha with ha | ha
      · rcases (nbw a).1 ha with h1 | h1
        · have := h.pl C.top tmem a (.inl h1); omega
        · omega
      · rw [nba] at ha; cases ha
end Go.Wl
