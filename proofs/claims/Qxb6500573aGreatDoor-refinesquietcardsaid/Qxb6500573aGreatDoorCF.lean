/- Plain: each plain instruction; the checks that the machine makes say yes. -/
import Derived.Test.Qxb6500573aGreatDoorCE
namespace Go.Wl
open Go Go.Sl Go.Proofs
set_option linter.unusedVariables false
section
variable {c : Cx} {m : VM} {pc : Nat}
theorem plain_in {ty : Ty} (h : RunT c m ty) {op x : Int} (hx : 0 ≤ x ∧ x ≤ 65535) : plainM c.th c.fs.length c.p op x m =
    (if op = 1 then bind1 (constM c.p x m) fun v => okU () (pushM c.th [v] m) else
    if op = 2 then okU () (pushM c.th [V.nil] m) else
    if op = 3 then okU () (pushM c.th [⟨1, 1, []⟩] m) else
    if op = 4 then okU () (pushM c.th [⟨1, 0, []⟩] m) else
    if op = 5 then (if x < c.p.nslots then pGetL c.th c.f x m else none) else
    if op = 6 then (if x < c.p.nslots then pSetL c.th c.f x m else none) else
    if op = 7 then pGetU c.th c.fs.length x m else
    if op = 8 then pSetU c.th c.fs.length x m else
    if op = 9 then pGetG c.th c.p x m else
    if op = 10 then pSetG c.th c.p x m else
    if op = 11 then pGetT c.th m else
    if op = 12 then pSetT c.th m else
    if op = 13 then pSetI c.th x m else
    if op = 14 then pNewT c.th m else
    if op = 25 then bind2 (popM c.th m) fun _ m => some (.ok () m) else
    if op = 28 then pClo c.th c.fs.length x m else
    if op = 29 then okU () (closeM c.th (c.f.base + x) m) else
    if op = 30 then (if x + 4 ≤ c.p.nslots then forV c.th (slotI c.f x) op m else none) else
    if op = 31 then (if x + 4 ≤ c.p.nslots then forV c.th (slotI c.f x) op m else none) else
    if op = 32 then (if x + 4 ≤ c.p.nslots then forV c.th (slotI c.f x) op m else none) else
    operM c.th op x m) := by
  obtain ⟨t, ht, hR⟩ := h.run
  have hsm := h.small ht
  have hb := hR.b
  unfold plainM
  rw [h.frame, bind1_some]
  unfold getT
  rw [ht, bind1_some, if_pos (by unfold Cx.O at hsm; omega)]
theorem falls {st : List Bool} {z : List Nat} (hp : PrOk c.g c.p (c.PT c.cl.p.toNat)) (hn : fall c.p (c.PT c.cl.p.toNat) pc ⟨st, z⟩) : st.length ≤ 128 := by
  have h1 := (hp.st (pc + 1) (by have := hn.1; omega)).1
  have h2 := hn.2.1.1
  dsimp only at h2
  omega
/-- The plain instructions. -/
theorem plain_ok {ty : Ty} (h : RunT c m ty) (hT : c.PT c.cl.p.toNat pc = ty) {op x : Int} (hx : 0 ≤ x ∧ x ≤ 65535) (hi : InsOk c.g c.p (c.PT c.cl.p.toNat) pc op x) (hc : ¬ (21 ≤ op ∧ op ≤ 24) ∧ op ≠ 26 ∧ op ≠ 27) : Tot c (plainM c.th c.fs.length c.p op x m) (PO c m.vs.fuel pc) := by
  have hp := h.prOk
  rw [plain_in h hx]
  cases hi with
  | @kon _ st z ht hk hn =>
    rw [hT] at ht
    subst ht
    have hl := falls hp hn
    simp only [List.length_append, List.length_cons, List.length_nil] at hl
    obtain ⟨v, h1, h2, _⟩ := h.const hk
    rw [if_pos rfl, h1, bind1_some]
    exact h.pushT h2 (fun q => by cases q) (by omega) rfl hn
  | @lit _ _ st z ho ht hn =>
    rw [hT] at ht
    subst ht
    have hl := falls hp hn
    simp only [List.length_append, List.length_cons, List.length_nil] at hl
    rcases ho with rfl | rfl | rfl
    · exact h.pushT VV.nil (fun q => by cases q) (by omega) rfl hn
    · exact h.pushT (VV.bool true) (fun q => by cases q) (by omega) rfl hn
    · exact h.pushT (VV.bool false) (fun q => by cases q) (by omega) rfl hn
  | @getL _ st z b ht hk hb hn =>
    rw [hT] at ht
    subst ht
    have hl := falls hp hn
    simp only [List.length_append, List.length_cons, List.length_nil] at hl
    obtain ⟨v, h1, h2, h3⟩ := h.slot hk
    show Tot c (if x < c.p.nslots then pGetL c.th c.f x m else none) _
    rw [if_pos hk.2]
    unfold pGetL
    rw [h1, bind1_some]
    exact h.pushT h2 (fun q => h3 (hb q)) (by omega) rfl hn
  | @setL _ st z b ht hk hb hn =>
    rw [hT] at ht
    subst ht
    obtain ⟨v, m1, g1, g2, g3, g4, g5⟩ := h.pop
    show Tot c (if x < c.p.nslots then pSetL c.th c.f x m else none) _
    rw [if_pos hk.2]
    unfold pSetL
    rw [g1, bind2_some]
    obtain ⟨m2, q1, q2, q3⟩ := g4.setSlot hk (g5.vv g2) (fun w => g3 (hb w))
    exact Tot.okU q1 ⟨⟨_, q2, hn⟩, by rw [q3.fuel, g5.fuel]⟩
  | @getU _ st z ht hk hn =>
    rw [hT] at ht
    subst ht
    have hl := falls hp hn
    simp only [List.length_append, List.length_cons, List.length_nil] at hl
    obtain ⟨v, h1, h2⟩ := h.getUp hk
    show Tot c (pGetU c.th c.fs.length x m) _
    unfold pGetU
    rw [h1, bind1_some]
    exact h.pushT h2 (fun q => by cases q) (by omega) rfl hn
  | @setU _ st z b ht hk hn =>
    rw [hT] at ht
    subst ht
    obtain ⟨v, m1, g1, g2, g3, g4, g5⟩ := h.pop
    show Tot c (pSetU c.th c.fs.length x m) _
    unfold pSetU
    rw [g1, bind2_some]
    obtain ⟨m2, q1, q2, q3, _⟩ := g4.setUp hk (g5.vv g2)
    exact Tot.okU q1 ⟨⟨_, q2, hn⟩, by rw [q3, g5.fuel]⟩
  | @getG _ st z v ht hk hv hn =>
    rw [hT] at ht
    subst ht
    have hl := falls hp hn
    simp only [List.length_append, List.length_cons, List.length_nil] at hl
    obtain ⟨k, h1, h2, _⟩ := h.const hk
    obtain ⟨w, h3, h4⟩ := h.tget (i := 0) (by have := h.mi.tn; omega) h2
    show Tot c (pGetG c.th c.p x m) _
    unfold pGetG
    rw [h1, bind1_some, h3, bind1_some]
    exact h.pushT h4 (fun q => by cases q) (by omega) rfl hn
  | @setG _ st z b v ht hk hv hn =>
    rw [hT] at ht
    subst ht
    obtain ⟨w, m1, g1, g2, g3, g4, g5⟩ := h.pop
    obtain ⟨k, h1, h2, _⟩ := g4.const hk
    show Tot c (pSetG c.th c.p x m) _
    unfold pSetG
    rw [g1, bind2_some, h1, bind1_some]
    exact g4.store (by have := g4.mi.tn; omega) h2 (g5.vv g2) g5.fuel hn
  | @getT _ st z a b ht hn =>
    rw [hT] at ht
    subst ht
    have hl := falls hp hn
    simp only [List.length_append, List.length_cons, List.length_nil] at hl
    have h' : RunT c m ⟨(st ++ [a]) ++ [b], z⟩ := by rw [List.append_assoc]; exact h
    obtain ⟨k, m1, g1, g2, _, g4, g5⟩ := h'.pop
    obtain ⟨w, m2, q1, q2, _, q4, q5⟩ := g4.pop
    show Tot c (pGetT c.th m) _
    unfold pGetT
    rw [g1, bind2_some, q1, bind2_some]
    refine (q4.tabOf (q5.vv q2) (by decide)).bind fun i m' hi => ?_
    obtain ⟨rfl, i1, i2, _⟩ := hi
    obtain ⟨v, h3, h4⟩ := q4.tget ⟨i1, i2⟩ (q5.vv (g5.vv g2))
    rw [h3, bind1_some]
    exact q4.pushT h4 (fun q => by cases q) (by omega) (by rw [q5.fuel, g5.fuel]) hn
  | @setT _ st z a b d ht hn =>
    rw [hT] at ht
    subst ht
    have h' : RunT c m ⟨((st ++ [a]) ++ [b]) ++ [d], z⟩ := by rw [List.append_assoc, List.append_assoc]; exact h
    obtain ⟨v, m0, e1, e2, _, e4, e5⟩ := h'.pop
    obtain ⟨k, m1, g1, g2, _, g4, g5⟩ := e4.pop
    obtain ⟨w, m2, q1, q2, _, q4, q5⟩ := g4.pop
    show Tot c (pSetT c.th m) _
    unfold pSetT
    rw [e1, bind2_some, g1, bind2_some, q1, bind2_some]
    refine (q4.tabOf (q5.vv q2) (by decide)).bind fun i m' hi => ?_
    obtain ⟨rfl, i1, i2, _⟩ := hi
    exact q4.store ⟨i1, i2⟩ (q5.vv (g5.vv g2)) (q5.vv (g5.vv (e5.vv e2))) (by rw [q5.fuel, g5.fuel, e5.fuel]) hn
  | @setI _ st z a b ht hn =>
    rw [hT] at ht
    subst ht
    have h' : RunT c m ⟨(st ++ [a]) ++ [b], z⟩ := by rw [List.append_assoc]; exact h
    obtain ⟨v, m1, g1, g2, _, g4, g5⟩ := h'.pop
    obtain ⟨t, ht, hR⟩ := g4.run
    have hsm := g4.small ht
    have hsl := hR.sl
    simp only [List.length_append, List.length_cons, List.length_nil] at hsl
    have hi : t.stack.length - 1 < t.stack.length := by omega
    show Tot c (pSetI c.th x m) _
    unfold pSetI getT
    rw [g1, bind2_some, ht, bind1_some, if_pos (by omega), List.getElem?_eq_getElem hi, bind1_some]
    refine (g4.tabOf (hR.vv _ (List.getElem_mem hi)) (by decide)).bind fun i m' hi => ?_
    obtain ⟨rfl, i1, i2, _⟩ := hi
    obtain ⟨n, rfl⟩ : ∃ n : Nat, x = n := ⟨x.toNat, by omega⟩
    exact g4.store ⟨i1, i2⟩ (VV.numb (numI_ok (n := n) (by omega))) (g5.vv g2) g5.fuel hn
  | @newT _ st z ht hn =>
    rw [hT] at ht
    subst ht
    have hl := falls hp hn
    simp only [List.length_append, List.length_cons, List.length_nil] at hl
    show Tot c (pNewT c.th m) _
    unfold pNewT
    by_cases h12 : 12 ≤ m.vs.tabs.length
    · rw [if_pos h12]; exact Tot.trp h (.inl rfl)
    · rw [if_neg h12]
      have hT2 : RunT c { m with vs := { m.vs with tabs := m.vs.tabs ++ [Tb.empty] } } ⟨st, z⟩ := by
        refine h.tabs (by simp) (by simp; omega) fun t ht => ?_
        rcases List.mem_append.1 ht with ht | ht
        · exact (h.mi.tb t ht).mono (by simp) (Nat.le_refl _) (Nat.le_refl _)
        · rw [List.mem_singleton] at ht; subst ht; exact TbOk.empty
      exact hT2.pushT (VV.tabl (by simp) (by omega)) (fun q => by cases q) (by omega) rfl hn
  | @arith _ st z a b ht hk hn =>
    rw [hT] at ht
    subst ht
    have hl := falls hp hn
    simp only [List.length_append, List.length_cons, List.length_nil] at hl
    have h' : RunT c m ⟨(st ++ [a]) ++ [b], z⟩ := by rw [List.append_assoc]; exact h
    obtain ⟨w, m1, g1, g2, _, g4, g5⟩ := h'.pop
    show Tot c (operM c.th 15 x m) _
    unfold operM
    rw [g1, bind2_some, if_pos rfl]
    exact arith_okT g4 (g5.vv g2) (by omega) g5.fuel hn
  | @cmp _ st z a b ht hk hn =>
    rw [hT] at ht
    subst ht
    have hl := falls hp hn
    simp only [List.length_append, List.length_cons, List.length_nil] at hl
    have h' : RunT c m ⟨(st ++ [a]) ++ [b], z⟩ := by rw [List.append_assoc]; exact h
    obtain ⟨w, m1, g1, g2, _, g4, g5⟩ := h'.pop
    show Tot c (operM c.th 16 x m) _
    unfold operM
    rw [g1, bind2_some, if_neg (by decide), if_pos rfl]
    exact cmp_okT g4 (g5.vv g2) (by omega) g5.fuel hn
  | @cat _ st z a b ht hn =>
    rw [hT] at ht
    subst ht
    have hl := falls hp hn
    simp only [List.length_append, List.length_cons, List.length_nil] at hl
    have h' : RunT c m ⟨(st ++ [a]) ++ [b], z⟩ := by rw [List.append_assoc]; exact h
    obtain ⟨w, m1, g1, g2, _, g4, g5⟩ := h'.pop
    show Tot c (operM c.th 17 x m) _
    unfold operM
    rw [g1, bind2_some, if_neg (by decide), if_neg (by decide), if_pos rfl]
    exact cat_okT g4 (g5.vv g2) (by omega) g5.fuel hn
  | @una _ _ st z a ho ht hn =>
    rw [hT] at ht
    subst ht
    have hl := falls hp hn
    simp only [List.length_append, List.length_cons, List.length_nil] at hl
    obtain ⟨w, m1, g1, g2, _, g4, g5⟩ := h.pop
    rcases ho with rfl | rfl | rfl
    · show Tot c (operM c.th 18 x m) _
      unfold operM
      rw [g1, bind2_some, if_neg (by decide), if_neg (by decide), if_neg (by decide), if_pos rfl]
      exact g4.pushT (VV.bool _) (fun q => by cases q) (by omega) g5.fuel hn
    · show Tot c (operM c.th 19 x m) _
      unfold operM
      rw [g1, bind2_some, if_neg (by decide), if_neg (by decide), if_neg (by decide), if_neg (by decide), if_pos rfl]
      exact neg_okT g4 (g5.vv g2) (by omega) g5.fuel hn
    · show Tot c (operM c.th 20 x m) _
      unfold operM
      rw [g1, bind2_some, if_neg (by decide), if_neg (by decide), if_neg (by decide), if_neg (by decide), if_neg (by decide), if_pos rfl]
      exact len_okT g4 (g5.vv g2) (by omega) g5.fuel hn
  | jmp hj => exact absurd (by omega) hc.1
  | jf ht hj hn => exact absurd (by omega) hc.1
  | jk ho ht hj hn => exact absurd (by omega) hc.1
  | @pop _ st z a ht hn =>
    rw [hT] at ht
    subst ht
    obtain ⟨w, m1, g1, g2, _, g4, g5⟩ := h.pop
    show Tot c (bind2 (popM c.th m) fun _ m => some (.ok () m)) _
    rw [g1, bind2_some]
    exact Tot.ok ⟨⟨_, g4, hn⟩, g5.fuel⟩
  | call ht hk hl hn => exact absurd rfl hc.2.1
  | ret ht => exact absurd rfl hc.2.2
  | @clo _ st z q ht hk hq hd hn =>
    rw [hT] at ht
    subst ht
    have hl := falls hp hn
    simp only [List.length_append, List.length_cons, List.length_nil] at hl
    show Tot c (pClo c.th c.fs.length x m) _
    unfold pClo
    refine (h.closure hk hq hd).bind fun j m1 hm => ?_
    obtain ⟨g1, g2, g3, g4⟩ := hm
    have hcn := g1.mi.cn
    rw [if_pos (by omega)]
    obtain ⟨n, rfl⟩ : ∃ n : Nat, j = n := ⟨j.toNat, by omega⟩
    exact g1.pushT (VV.clos (by omega) (by omega)) (fun q => by cases q) (by omega) g3 hn
  | @close _ st z ht hk hn =>
    rw [hT] at ht
    subst ht
    obtain ⟨m1, g1, g2, g3, g4⟩ := h.close hk
    show Tot c (okU () (closeM c.th (c.f.base + x) m)) _
    exact Tot.okU g1 ⟨⟨_, g2, hn⟩, g3⟩
  | @forC _ st z z' ht hk h0 h2 hz hn =>
    rw [hT] at ht
    subst ht
    show Tot c (if x + 4 ≤ c.p.nslots then forV c.th (slotI c.f x) 30 m else none) _
    rw [if_pos (by omega)]
    exact fChk_ok h hk h0 h2 hz rfl hn
  | @forT _ st z ht hk h0 h1 h2 hn =>
    rw [hT] at ht
    subst ht
    have hl := falls hp hn
    simp only [List.length_append, List.length_cons, List.length_nil] at hl
    show Tot c (if x + 4 ≤ c.p.nslots then forV c.th (slotI c.f x) 31 m else none) _
    rw [if_pos (by omega)]
    exact fTest_ok h hk h0 h1 h2 (by omega) rfl hn
  | @forN _ st z ht hk h1 h2 h3 hn =>
    rw [hT] at ht
    subst ht
    have hl := falls hp hn
    simp only [List.length_append, List.length_cons, List.length_nil] at hl
    show Tot c (if x + 4 ≤ c.p.nslots then forV c.th (slotI c.f x) 32 m else none) _
    rw [if_pos (by omega)]
    exact fNext_ok h hk h1 h2 h3 (by omega) rfl hn
end
end Go.Wl
