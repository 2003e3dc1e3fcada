/- Good states stay good: every instruction that goes on. -/
import Derived.Test.Qxb6500572aGreatDoorPSafeC
namespace Go.Wl
open Go Go.Sl
set_option linter.unusedVariables false
variable {P : Prog} {m m' X : VM} {k pc : Nat} {u : Fun} {T : Typ} {τ : List UInt8} {below locs ops : List W} {top : Fr} {rest : List Fr} {c : Flat}
theorem ask_types {h : Host} {imq : Int} {rs : List UInt8} {vals : List W} (h0 : (askM h imq rs vals).2.1 = 0) (hr : ty2 rs) : (askM h imq rs vals).2.2.map W.t = rs := by
  unfold askM at h0 ⊢
  split
  · rename_i h1; rw [if_pos h1] at h0; exact absurd h0 (by dsimp only; decide)
  · rename_i h1
    rw [if_neg h1] at h0
    split
    · rename_i h2; rw [if_pos h2] at h0; exact absurd h0 h2
    · rename_i h2
      rw [if_neg h2] at h0
      split
      · rename_i h3; rw [if_pos h3] at h0; exact absurd h0 (by dsimp only; decide)
      · rename_i h3
        have hf : fitsAll (hostCall h imq (vals.map W.val)).2.1 rs = true := by simpa using h3
        exact argsW_t hf hr
theorem nx_eq {r : Option Int} (h : X.next = (m', r)) : m' = X.next.1 := by rw [h]
theorem word_t2 (op n : Int) : (word (aluTo op) n).t = aluTo op := word_t (by unfold aluTo; split <;> simp) n
theorem exec_good (h : TF P m k pc u T τ below locs ops top rest) (hP : m.P = P) (hPO : ProgOk P) (hi : IOk P u T pc c τ) (he : m.exec c = (m', none)) : GoodF P m' := by
  by_cases h0 : c.op = 0
  · rw [exec_x0 h0] at he; simp [VM.x0] at he
  by_cases h3 : c.op = 3
  · rw [exec_x3 h3] at he
    obtain ⟨τ', ht, g1, g2, g3⟩ := hi.i3 h3
    obtain ⟨o1, y, a1, a2, a3, a4, a5, a6⟩ := h.one ht
    unfold VM.x3 at he
    split at he
    · cases he
      exact h.setp (X := m.pop) rfl a6 rfl (x := c.imm) (pc' := c.imm.toNat) (Int.toNat_of_nonneg g1).symm g3 a1
    · rw [nx_eq he]; exact h.nextp (X := m.pop) rfl a6 rfl g2 a1
  by_cases h4 : c.op = 4
  · rw [exec_x4 h4] at he
    obtain ⟨g1, g2⟩ := hi.i4 h4
    cases he
    exact h.setp (X := m) rfl h.st rfl (x := c.imm) (pc' := c.imm.toNat) (Int.toNat_of_nonneg (by omega)).symm g2 h.ot
  by_cases h5 : c.op = 5 ∨ c.op = 9
  · rw [exec_x5 h5] at he
    obtain ⟨τ', ht⟩ := hi.i5 h5
    unfold VM.x5 at he
    simp only [Prod.mk.injEq] at he
    obtain ⟨rfl, h2⟩ := he
    split at h2
    · cases h2
    · rename_i hn; exact h.leaves ht rfl rfl hn
  by_cases h6 : c.op = 6
  · rw [exec_x6 h6] at he
    cases he
    exact (h.jumps (X := m) rfl h.st h.ot (hi.i6 h6)).1
  by_cases h7 : c.op = 7
  · rw [exec_x7 h7] at he
    obtain ⟨τ', ht, g1, g2⟩ := hi.i7 h7
    obtain ⟨o1, y, a1, a2, a3, a4, a5, a6⟩ := h.one ht
    unfold VM.x7 at he
    split at he
    · rw [nx_eq he]; exact h.nextp (X := m.pop) rfl a6 rfl g1 a1
    · cases he
      exact (h.jumps (X := m.pop) rfl a6 a1 g2).1
  by_cases h8 : c.op = 8
  · rw [exec_x8 h8] at he
    obtain ⟨τ', ht, hi0, hi1, hj⟩ := hi.i8 h8
    obtain ⟨o1, y, a1, a2, a3, a4, a5, a6⟩ := h.one ht
    have hm0 : 0 ≤ min ((lst m.i.st).n % 4294967296) c.imm := by omega
    obtain ⟨q, hq⟩ := Int.eq_ofNat_of_zero_le hm0
    obtain ⟨e, hee, ho6, hje⟩ := hj q (by omega)
    have hat : m.P.at m.i.top.f (m.i.top.pc + 1 + min ((lst m.i.st).n % 4294967296) c.imm) = e := by
      have hk := (List.getElem?_eq_some_iff.1 h.fu).1
      have hpc := (List.getElem?_eq_some_iff.1 hee).1
      unfold Prog.at
      rw [h.topv, h.f, h.pcv, hP, hq, if_neg (by omega), Int.toNat_natCast, h.fu]
      dsimp only
      rw [if_neg (by omega), show ((pc : Int) + 1 + (q : Int)).toNat = pc + 1 + q by omega, List.getD_eq_getElem?_getD, hee]; rfl
    unfold VM.x8 at he
    rw [hat] at he
    cases he
    exact (h.jumps (X := VM.pop { m with steps := IntKind.i64.wrap (m.steps + 1) }) rfl a6 a1 hje).1
  by_cases h10 : c.op = 10
  · rw [exec_x10 h10] at he
    obtain ⟨f, τ', g0, hf, ht, hT⟩ := hi.i10 h10
    unfold VM.x10 at he
    split at he
    · rename_i hn
      split at he
      · cases he
        exact h.enters hPO g0 (by rw [← hP]; exact hn) hf ht hT hP rfl rfl
      · simp at he
    · rename_i hn
      have hot := h.ot
      rw [ht] at hot
      obtain ⟨o1, vals, rfl, b1, b2⟩ := List.map_eq_append_iff.1 hot
      have hvl : vals.length = f.params.length := by rw [← b2]; simp
      obtain ⟨_, _, _, _, hr2, _⟩ := hPO.f f (List.mem_of_getElem? hf)
      rw [hP, sig_some g0 hf] at he
      dsimp only at he
      have htk : m.i.st.take (m.i.st.length - f.params.length) = below ++ locs ++ o1 := by
        rw [h.stl, h.st, show below.length + locs.length + (o1 ++ vals).length - f.params.length = (below ++ locs ++ o1).length by simp only [List.length_append]; omega, show below ++ locs ++ (o1 ++ vals) = (below ++ locs ++ o1) ++ vals by simp, List.take_left]
      split at he
      · rename_i he0
        rw [nx_eq he]
        refine h.nextp (locs' := locs) (ops' := o1 ++ (askM m.host c.imm f.results (m.i.st.drop (m.i.st.length - f.params.length))).2.2) rfl ?_ rfl hT (by rw [List.map_append, b1, ask_types he0 hr2])
        show m.i.st.take _ ++ _ = _
        rw [htk]; simp
      · simp at he
  by_cases h11 : c.op = 11
  · rw [exec_x11 h11] at he
    obtain ⟨τ', t, ht, g1⟩ := hi.i11 h11
    obtain ⟨o1, y, a1, a2, a3, a4, a5, a6⟩ := h.one ht
    rw [nx_eq he]; exact h.nextp (X := m.pop) rfl a6 rfl g1 a1
  by_cases h12 : c.op = 12
  · rw [exec_x12 h12] at he
    obtain ⟨τ', t, ht, gT⟩ := hi.i12 h12
    rw [show τ' ++ [t, t, 105] = (τ' ++ [t, t]) ++ [105] by simp] at ht
    obtain ⟨o1, y, a1, a2, a3, a4, a5, a6⟩ := h.one ht
    obtain ⟨o2, b, rfl, g1, g2⟩ := map_snoc (show o1.map W.t = (τ' ++ [t]) ++ [t] by rw [a1]; simp)
    obtain ⟨o3, a, rfl, g3, g4⟩ := map_snoc g1
    have e1 : m.pop.i.st = (below ++ locs ++ o3 ++ [a]) ++ [b] := by rw [a6]; simp
    have e2 : m.pop.pop.i.st = (below ++ locs ++ o3) ++ [a] := by show m.pop.i.st.dropLast = _; rw [e1, drop_app]
    have e3 : m.pop.pop.pop.i.st = below ++ locs ++ o3 := by show m.pop.pop.i.st.dropLast = _; rw [e2, drop_app]
    unfold VM.x12 at he
    rw [e1, e2, lst_app, lst_app] at he
    split at he
    · rw [nx_eq he]
      refine h.nextp (X := m.pop.pop.pop.push b) (locs' := locs) (ops' := o3 ++ [b]) rfl ?_ rfl gT (by rw [List.map_append, g3, List.map_cons, g2]; rfl)
      show m.pop.pop.pop.i.st ++ [b] = _
      rw [e3]; simp
    · rw [nx_eq he]
      refine h.nextp (X := m.pop.pop.pop.push a) (locs' := locs) (ops' := o3 ++ [a]) rfl ?_ rfl gT (by rw [List.map_append, g3, List.map_cons, g4]; rfl)
      show m.pop.pop.pop.i.st ++ [a] = _
      rw [e3]; simp
  have hget : ∀ t, 0 ≤ c.imm → (u.params ++ u.locals)[c.imm.toNat]? = some t → ((m.i.top.base : Int) + c.imm).toNat = below.length + c.imm.toNat ∧ ∃ hl : c.imm.toNat < locs.length, locs[c.imm.toNat].t = t ∧ m.i.st.getD (below.length + c.imm.toNat) ⟨false, 0⟩ = locs[c.imm.toNat] := by
    intro t g0 g1
    have hl := (List.getElem?_eq_some_iff.1 g1).1
    have hll : locs.length = (u.params ++ u.locals).length := by rw [← h.lt]; simp
    refine ⟨by rw [h.topv, h.base]; omega, by omega, ?_, ?_⟩
    · have := congrArg (fun l => l[c.imm.toNat]?) h.lt
      simp only [List.getElem?_map, g1] at this
      rw [List.getElem?_eq_getElem (by omega)] at this
      simpa using this
    · rw [h.st, List.append_assoc, List.getD_eq_getElem?_getD, List.getElem?_append_right (by omega), Nat.add_sub_cancel_left, List.getElem?_append_left (by omega), List.getElem?_eq_getElem (by omega)]; rfl
  by_cases h13 : c.op = 13
  · rw [exec_x13 h13] at he
    obtain ⟨t, g0, g1, gT⟩ := hi.i13 h13
    obtain ⟨d1, hl, d2, d3⟩ := hget t g0 g1
    unfold VM.x13 at he
    rw [d1, d3] at he
    rw [nx_eq he]
    refine h.nextp (X := m.push _) (locs' := locs) (ops' := ops ++ [locs[c.imm.toNat]]) rfl ?_ rfl gT (by rw [List.map_append, h.ot, List.map_cons, d2]; rfl)
    show m.i.st ++ [_] = _
    rw [h.st]; simp
  by_cases h14 : c.op = 14
  · rw [exec_x14 h14] at he
    obtain ⟨t, τ', g0, g1, ht, gT⟩ := hi.i14 h14
    obtain ⟨d1, hl, d2, d3⟩ := hget t g0 g1
    obtain ⟨o1, y, a1, a2, a3, a4, a5, a6⟩ := h.one ht
    unfold VM.x14 at he
    rw [d1, a5] at he
    rw [nx_eq he]
    refine h.nextp (X := m.setSt _) (locs' := locs.set c.imm.toNat y) (ops' := o1) rfl ?_ ?_ gT a1
    · show m.i.st.dropLast.set _ y = _
      rw [show m.i.st.dropLast = below ++ locs ++ o1 from a6, List.append_assoc, List.set_append_right _ _ (by omega), Nat.add_sub_cancel_left, List.set_append_left _ _ hl]; simp
    · rw [List.map_set, a2, ← d2]
      apply List.ext_getElem
      · simp
      · intro j h1 h2
        rw [List.getElem_set]
        split
        · rename_i e; subst e; simp
        · rfl
  obtain ⟨i, o, τ', s1, s2, sT, _⟩ := hi.ip (by omega)
  have hr := sg_some s1
  by_cases h15 : c.op = 15
  · rw [exec_x15 h15] at he
    rw [sg15 (.inl h15)] at s1; cases s1
    rw [nx_eq he]
    refine h.nextp (X := m.push _) (locs' := locs) (ops' := ops ++ [⟨false, IntKind.i32.wrap (m.mem.bytes.length / 8 : Nat)⟩]) rfl ?_ rfl sT (by rw [List.map_append, h.ot, s2]; simp; rfl)
    show m.i.st ++ [_] = _
    rw [h.st]; simp
  by_cases h16 : c.op = 16
  · rw [exec_x16 h16] at he
    rw [sg16 (.inl h16)] at s1; cases s1
    obtain ⟨o1, y, a1, a2, a3, a4, a5, a6⟩ := h.one s2
    rw [nx_eq he]
    refine h.nextp (locs' := locs) (ops' := o1 ++ [⟨false, IntKind.i32.wrap (grow m.mem (lst m.i.st).n).2⟩]) rfl ?_ rfl sT (by rw [List.map_append, a1]; rfl)
    show m.pop.i.st ++ [_] = _
    rw [a6]; simp
  by_cases h17 : c.op = 17
  · rw [exec_x17 h17] at he
    rw [sg15 (.inr h17)] at s1; cases s1
    rw [nx_eq he]
    refine h.nextp (X := m.push _) (locs' := locs) (ops' := ops ++ [⟨false, IntKind.i32.wrap c.imm⟩]) rfl ?_ rfl sT (by rw [List.map_append, h.ot, s2]; simp; rfl)
    show m.i.st ++ [_] = _
    rw [h.st]; simp
  by_cases h18 : c.op = 18
  · rw [exec_x18 h18] at he
    rw [sg18 h18] at s1; cases s1
    rw [nx_eq he]
    refine h.nextp (X := m.push _) (locs' := locs) (ops' := ops ++ [⟨true, c.imm⟩]) rfl ?_ rfl sT (by rw [List.map_append, h.ot, s2]; simp; rfl)
    show m.i.st ++ [_] = _
    rw [h.st]; simp
  by_cases h19 : 19 ≤ c.op ∧ c.op ≤ 24
  · rw [exec_x19 h19] at he
    unfold VM.x19 at he
    split at he
    · rw [nx_eq he]
      by_cases h20 : c.op = 20
      · rw [if_pos h20]
        rw [sg20 (.inl h20)] at s1; cases s1
        obtain ⟨o1, y, a1, a2, a3, a4, a5, a6⟩ := h.one s2
        refine h.nextp (X := m.pop.push _) (locs' := locs) (ops' := o1 ++ [⟨true, (mload m.mem c.op (lst m.i.st).n c.imm).1⟩]) rfl ?_ rfl sT (by rw [List.map_append, a1]; rfl)
        show m.pop.i.st ++ [_] = _
        rw [a6]; simp
      · rw [if_neg h20]
        rw [sg16 (by omega)] at s1; cases s1
        obtain ⟨o1, y, a1, a2, a3, a4, a5, a6⟩ := h.one s2
        refine h.nextp (X := m.pop.push _) (locs' := locs) (ops' := o1 ++ [⟨false, IntKind.i32.wrap (mload m.mem c.op (lst m.i.st).n c.imm).1⟩]) rfl ?_ rfl sT (by rw [List.map_append, a1]; rfl)
        show m.pop.i.st ++ [_] = _
        rw [a6]; simp
    · simp at he
  by_cases h25 : 25 ≤ c.op ∧ c.op ≤ 28
  · rw [exec_x25 h25] at he
    have ht2 : ∃ t s, τ = τ' ++ [t, s] ∧ o = [] := by
      by_cases h26 : c.op = 26
      · rw [sg26 h26] at s1; cases s1; exact ⟨_, _, s2, rfl⟩
      · rw [sg25 (by omega)] at s1; cases s1; exact ⟨_, _, s2, rfl⟩
    obtain ⟨t, s, ht, rfl⟩ := ht2
    obtain ⟨o1, x, y, a1, a2, a3, a4, a5, a6, a7, a8⟩ := h.two ht
    unfold VM.x25 at he
    split at he
    · rw [nx_eq he]
      exact h.nextp (locs' := locs) (ops' := o1) rfl a8 rfl sT (by rw [a1]; simp)
    · simp at he
  by_cases hb : aluBin c.op = true
  · rw [exec_xb (by omega) hb] at he
    have hb' := of_decide_eq_true hb
    have ht2 : ∃ t s, τ = τ' ++ [t, s] ∧ o = [aluTo c.op] := by
      by_cases h40 : 40 ≤ c.op ∧ c.op < 56
      · rw [sg40 h40] at s1; cases s1; exact ⟨_, _, s2, by unfold aluTo; rw [if_neg (by omega)]⟩
      · by_cases h73 : c.op < 73
        · rw [sg60 (by omega)] at s1; cases s1; exact ⟨_, _, s2, by unfold aluTo; rw [if_pos (by omega)]⟩
        · rw [sg73 (by omega)] at s1; cases s1; exact ⟨_, _, s2, by unfold aluTo; rw [if_neg (by omega)]⟩
    obtain ⟨t, s, ht, rfl⟩ := ht2
    obtain ⟨o1, x, y, a1, a2, a3, a4, a5, a6, a7, a8⟩ := h.two ht
    unfold VM.xb at he
    split at he
    · rw [nx_eq he]
      refine h.nextp (X := m.pop.pop.push _) (locs' := locs) (ops' := o1 ++ [word (aluTo c.op) (alu c.op (lst m.pop.i.st).n (lst m.i.st).n).1]) rfl ?_ rfl sT (by rw [List.map_append, a1, List.map_cons, word_t2]; rfl)
      show m.pop.pop.i.st ++ [_] = _
      rw [a8]; simp
    · simp at he
  · have hb' := of_decide_eq_false (by simpa using hb : aluBin c.op = false)
    rw [exec_xu (by omega) (by simpa using hb)] at he
    have ht2 : ∃ t, τ = τ' ++ [t] ∧ o = [aluTo c.op] := by
      by_cases h30 : c.op = 30 ∨ c.op = 31
      · rw [sg30 h30] at s1; cases s1; exact ⟨_, s2, by unfold aluTo; rw [if_neg (by omega)]⟩
      · by_cases h29 : c.op = 29
        · rw [sg16 (by omega)] at s1; cases s1; exact ⟨_, s2, by unfold aluTo; rw [if_neg (by omega)]⟩
        · rw [sg20 (by omega)] at s1; cases s1; exact ⟨_, s2, by unfold aluTo; rw [if_pos (by omega)]⟩
    obtain ⟨t, ht, rfl⟩ := ht2
    obtain ⟨o1, y, a1, a2, a3, a4, a5, a6⟩ := h.one ht
    unfold VM.xu at he
    split at he
    · rw [nx_eq he]
      refine h.nextp (X := m.pop.push _) (locs' := locs) (ops' := o1 ++ [word (aluTo c.op) (alu c.op (lst m.i.st).n 0).1]) rfl ?_ rfl sT (by rw [List.map_append, a1, List.map_cons, word_t2]; rfl)
      show m.pop.i.st ++ [_] = _
      rw [a6]; simp
    · simp at he
end Go.Wl
