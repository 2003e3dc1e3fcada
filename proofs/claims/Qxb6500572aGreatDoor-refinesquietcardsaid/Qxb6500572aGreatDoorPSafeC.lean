/- Good states stay good: every instruction. -/
import Derived.Test.Qxb6500572aGreatDoorPSafeB
namespace Go.Wl
open Go Go.Sl
set_option linter.unusedVariables false
variable {P : Prog} {m m' X : VM} {k pc : Nat} {u : Fun} {T : Typ} {τ : List UInt8} {below locs ops : List W} {top : Fr} {rest : List Fr} {c : Flat}
theorem sg15 {op : Int} (h : op = 15 ∨ op = 17) : sigs op = some ([], [105]) := by unfold sigs; rw [if_pos h]
theorem sg18 {op : Int} (h : op = 18) : sigs op = some ([], [108]) := by unfold sigs; rw [if_neg (by omega), if_pos h]
theorem sg16 {op : Int} (h : op = 16 ∨ op = 29 ∨ op = 19 ∨ op = 21 ∨ op = 22 ∨ op = 23 ∨ op = 24) : sigs op = some ([105], [105]) := by unfold sigs; rw [if_neg (by omega), if_neg (by omega), if_pos h]
theorem sg20 {op : Int} (h : op = 20 ∨ op = 32 ∨ op = 33) : sigs op = some ([105], [108]) := by unfold sigs; rw [if_neg (by omega), if_neg (by omega), if_neg (by omega), if_pos h]
theorem sg25 {op : Int} (h : op = 25 ∨ op = 27 ∨ op = 28) : sigs op = some ([105, 105], []) := by unfold sigs; rw [if_neg (by omega), if_neg (by omega), if_neg (by omega), if_neg (by omega), if_pos h]
theorem sg26 {op : Int} (h : op = 26) : sigs op = some ([105, 108], []) := by unfold sigs; rw [if_neg (by omega), if_neg (by omega), if_neg (by omega), if_neg (by omega), if_neg (by omega), if_pos h]
theorem sg30 {op : Int} (h : op = 30 ∨ op = 31) : sigs op = some ([108], [105]) := by unfold sigs; rw [if_neg (by omega), if_neg (by omega), if_neg (by omega), if_neg (by omega), if_neg (by omega), if_neg (by omega), if_pos h]
theorem sg40 {op : Int} (h : 40 ≤ op ∧ op < 56) : sigs op = some ([105, 105], [105]) := by unfold sigs; rw [if_neg (by omega), if_neg (by omega), if_neg (by omega), if_neg (by omega), if_neg (by omega), if_neg (by omega), if_neg (by omega), if_pos h]
theorem sg60 {op : Int} (h : 60 ≤ op ∧ op < 73) : sigs op = some ([108, 108], [108]) := by unfold sigs; rw [if_neg (by omega), if_neg (by omega), if_neg (by omega), if_neg (by omega), if_neg (by omega), if_neg (by omega), if_neg (by omega), if_neg (by omega), if_pos (by omega), if_neg (by omega)]
theorem sg73 {op : Int} (h : 73 ≤ op ∧ op < 76) : sigs op = some ([108, 108], [105]) := by unfold sigs; rw [if_neg (by omega), if_neg (by omega), if_neg (by omega), if_neg (by omega), if_neg (by omega), if_neg (by omega), if_neg (by omega), if_neg (by omega), if_pos (by omega), if_pos (by omega)]
theorem sg_some {op : Int} {p : List UInt8 × List UInt8} (h : sigs op = some p) : (15 ≤ op ∧ op ≤ 33) ∨ (40 ≤ op ∧ op < 56) ∨ (60 ≤ op ∧ op < 76) := by
  unfold sigs at h
  by_cases h1 : (15 ≤ op ∧ op ≤ 33) ∨ (40 ≤ op ∧ op < 56) ∨ (60 ≤ op ∧ op < 76)
  · exact h1
  · rw [if_neg (by omega), if_neg (by omega), if_neg (by omega), if_neg (by omega), if_neg (by omega), if_neg (by omega), if_neg (by omega), if_neg (by omega), if_neg (by omega)] at h; cases h
/-- One operand on top. -/
theorem TF.one (h : TF P m k pc u T τ below locs ops top rest) {τ' : List UInt8} {t : UInt8} (ht : τ = τ' ++ [t]) : ∃ o1 y, o1.map W.t = τ' ∧ y.t = t ∧ m.i.st = (below ++ locs ++ o1) ++ [y] ∧ Top m 1 ∧ lst m.i.st = y ∧ m.pop.i.st = below ++ locs ++ o1 := by
  have hot := h.ot
  rw [ht] at hot
  obtain ⟨o1, y, rfl, h1, h2⟩ := map_snoc hot
  have e : m.i.st = (below ++ locs ++ o1) ++ [y] := by rw [h.st]; simp
  refine ⟨o1, y, h1, h2, e, h.topn (by simp), by rw [e, lst_app], ?_⟩
  show m.i.st.dropLast = _
  rw [e, drop_app]
theorem TF.two (h : TF P m k pc u T τ below locs ops top rest) {τ' : List UInt8} {t s : UInt8} (ht : τ = τ' ++ [t, s]) : ∃ o1 x y, o1.map W.t = τ' ∧ x.t = t ∧ y.t = s ∧ m.i.st = (below ++ locs ++ o1) ++ [x, y] ∧ Top m 2 ∧ lst m.i.st = y ∧ lst m.pop.i.st = x ∧ m.pop.pop.i.st = below ++ locs ++ o1 := by
  have hot := h.ot
  rw [ht, show τ' ++ [t, s] = (τ' ++ [t]) ++ [s] by simp] at hot
  obtain ⟨o2, y, rfl, h1, h2⟩ := map_snoc hot
  obtain ⟨o1, x, rfl, h3, h4⟩ := map_snoc h1
  have e : m.i.st = (below ++ locs ++ o1) ++ [x, y] := by rw [h.st]; simp
  have e2 : m.i.st = ((below ++ locs ++ o1) ++ [x]) ++ [y] := by rw [e]; simp
  have e3 : m.pop.i.st = (below ++ locs ++ o1) ++ [x] := by show m.i.st.dropLast = _; rw [e2, drop_app]
  refine ⟨o1, x, y, h3, h4, h2, e, h.topn (by simp), by rw [e2, lst_app], by rw [e3, lst_app], ?_⟩
  show m.pop.i.st.dropLast = _
  rw [e3, drop_app]
theorem pre_op (h : TF P m k pc u T τ below locs ops top rest) (hP : m.P = P) (hPO : ProgOk P) (hi : IOk P u T pc c τ) : PreOp m c where
  p3 := by
    intro ho
    have : ∃ τ', τ = τ' ++ [105] := by
      by_cases h3 : c.op = 3
      · obtain ⟨τ', h1, _⟩ := hi.i3 h3; exact ⟨τ', h1⟩
      by_cases h7 : c.op = 7
      · obtain ⟨τ', h1, _⟩ := hi.i7 h7; exact ⟨τ', h1⟩
      by_cases h8 : c.op = 8
      · obtain ⟨τ', h1, _⟩ := hi.i8 h8; exact ⟨τ', h1⟩
      obtain ⟨i, o, τ', h1, h2, _⟩ := hi.ip (by omega)
      by_cases h20 : c.op = 20
      · rw [sg20 (.inl h20)] at h1; cases h1; exact ⟨τ', h2⟩
      · rw [sg16 (by omega)] at h1; cases h1; exact ⟨τ', h2⟩
    obtain ⟨τ', ht⟩ := this
    obtain ⟨o1, y, _, hy, _, h1, h2, _⟩ := h.one ht
    exact ⟨h1, by rw [h2]; exact t105 hy⟩
  p5 := by
    intro ho
    obtain ⟨τ', ht⟩ := hi.i5 ho
    have hot := h.ot
    rw [ht] at hot
    obtain ⟨o1, vals, rfl, h1, h2⟩ := List.map_eq_append_iff.1 hot
    have hvl : vals.length = u.results.length := by rw [← h2]; simp
    rw [h.topv, h.res]
    refine ⟨by rw [h.base, h.floor]; omega, h.topn (by simp; omega), ?_⟩
    rw [h.stl, h.st, show below.length + locs.length + (o1 ++ vals).length - u.results.length = (below ++ locs ++ o1).length by simp only [List.length_append]; omega, show below ++ locs ++ (o1 ++ vals) = (below ++ locs ++ o1) ++ vals by simp, List.drop_left, h2]
  p6 := by
    intro ho
    have := (h.jumps (X := m) rfl h.st h.ot (hi.i6 ho)).2
    rwa [← h.st] at this
  p7 := by
    intro ho
    obtain ⟨τ', ht, _, hj⟩ := hi.i7 ho
    obtain ⟨o1, y, h1, _, _, _, _, h5⟩ := h.one ht
    have := (h.jumps (X := m.pop) rfl h5 h1 hj).2
    rw [← h5] at this; exact this
  p8 := by
    intro ho
    obtain ⟨τ', ht, hi0, hi1, hj⟩ := hi.i8 ho
    obtain ⟨o1, y, h1, _, _, _, _, h5⟩ := h.one ht
    have hm0 : 0 ≤ min ((lst m.i.st).n % 4294967296) c.imm := by omega
    obtain ⟨q, hq⟩ := Int.eq_ofNat_of_zero_le hm0
    obtain ⟨e, he, ho6, hje⟩ := hj q (by omega)
    have hat : m.P.at m.i.top.f (m.i.top.pc + 1 + min ((lst m.i.st).n % 4294967296) c.imm) = e := by
      have hk := (List.getElem?_eq_some_iff.1 h.fu).1
      have hpc := (List.getElem?_eq_some_iff.1 he).1
      unfold Prog.at
      rw [h.topv, h.f, h.pcv, hP, hq, if_neg (by omega), Int.toNat_natCast, h.fu]
      dsimp only
      rw [if_neg (by omega), show ((pc : Int) + 1 + (q : Int)).toNat = pc + 1 + q by omega, List.getD_eq_getElem?_getD, he]; rfl
    rw [hat]
    refine ⟨hi0, by omega, ho6, ?_⟩
    have := (h.jumps (X := m.pop) rfl h5 h1 hje).2
    rw [← h5] at this; exact this
  p10 := by
    intro ho
    obtain ⟨f, τ', h0, hf, ht, _⟩ := hi.i10 ho
    have hot := h.ot
    rw [ht] at hot
    obtain ⟨o1, vals, rfl, h1, h2⟩ := List.map_eq_append_iff.1 hot
    have hvl : vals.length = f.params.length := by rw [← h2]; simp
    obtain ⟨b1, b2, b3, _⟩ := hPO.f f (List.mem_of_getElem? hf)
    have hlt := (List.getElem?_eq_some_iff.1 hf).1
    have hn := hPO.nf
    rw [hP, sig_some h0 hf]
    refine ⟨h0, by omega, rfl, by dsimp only; omega, by dsimp only; omega, by dsimp only; omega, h.topn (by simp; omega), ?_⟩
    dsimp only
    rw [h.stl, h.st, show below.length + locs.length + (o1 ++ vals).length - f.params.length = (below ++ locs ++ o1).length by simp only [List.length_append]; omega, show below ++ locs ++ (o1 ++ vals) = (below ++ locs ++ o1) ++ vals by simp, List.drop_left, h2]
  p11 := by
    intro ho
    obtain ⟨τ', t, ht, _⟩ := hi.i11 ho
    obtain ⟨o1, y, _, _, _, h1, _⟩ := h.one ht
    exact h1
  p12 := by
    intro ho
    obtain ⟨τ', t, ht, _⟩ := hi.i12 ho
    rw [show τ' ++ [t, t, 105] = (τ' ++ [t, t]) ++ [105] by simp] at ht
    obtain ⟨o1, y, h1, h2, h3, h4, h5, h6⟩ := h.one ht
    obtain ⟨o2, b, rfl, g1, g2⟩ := map_snoc (show o1.map W.t = (τ' ++ [t]) ++ [t] by rw [h1]; simp)
    obtain ⟨o3, a, rfl, g3, g4⟩ := map_snoc g1
    have e1 : m.pop.i.st = (below ++ locs ++ o3 ++ [a]) ++ [b] := by rw [h6]; simp
    have e2 : m.pop.pop.i.st = (below ++ locs ++ o3) ++ [a] := by show m.pop.i.st.dropLast = _; rw [e1, drop_app]
    have hst := h.st
    refine ⟨h.topn ?_, by rw [h5]; exact t105 h2, ?_⟩
    · have := congrArg List.length h.st
      have := congrArg List.length h3
      simp only [List.length_append, List.length_cons, List.length_nil] at *
      omega
    · rw [e1, e2, lst_app, lst_app]; exact wOf_t (g4.trans g2.symm)
  p13 := by
    intro ho
    have : ∃ t, 0 ≤ c.imm ∧ (u.params ++ u.locals)[c.imm.toNat]? = some t := by
      rcases ho with ho | ho
      · obtain ⟨t, h1, h2, _⟩ := hi.i13 ho; exact ⟨t, h1, h2⟩
      · obtain ⟨t, _, h1, h2, _⟩ := hi.i14 ho; exact ⟨t, h1, h2⟩
    obtain ⟨t, h1, h2⟩ := this
    have hl := (List.getElem?_eq_some_iff.1 h2).1
    have hll : locs.length = (u.params ++ u.locals).length := by rw [← h.lt]; simp
    rw [h.topv, h.base, h.floor, h.stl]
    omega
  p14 := by
    intro ho
    obtain ⟨t, τ', h1, h2, ht, _⟩ := hi.i14 ho
    obtain ⟨o1, y, g1, g2, g3, g4, g5, g6⟩ := h.one ht
    have hl := (List.getElem?_eq_some_iff.1 h2).1
    have hll : locs.length = (u.params ++ u.locals).length := by rw [← h.lt]; simp
    refine ⟨g4, ?_⟩
    rw [g5, h.topv, h.base]
    apply wOf_t
    rw [g2, h.st, show ((below.length : Int) + c.imm).toNat = below.length + c.imm.toNat by omega, List.append_assoc, List.getD_eq_getElem?_getD, List.getElem?_append_right (by omega), Nat.add_sub_cancel_left, List.getElem?_append_left (by omega)]
    have := congrArg (fun l => l[c.imm.toNat]?) h.lt
    simp only [List.getElem?_map, h2] at this
    rw [List.getElem?_eq_getElem (by omega)] at this ⊢
    simpa using this
  p25 := by
    intro ho
    obtain ⟨i, o, τ', h1, h2, _⟩ := hi.ip (by omega)
    by_cases h26 : c.op = 26
    · rw [sg26 h26] at h1; cases h1
      obtain ⟨o1, x, y, _, g2, g3, _, g5, g6, g7, _⟩ := h.two h2
      exact ⟨g5, by rw [g6, t108 g3, decide_eq_true h26], by rw [g7]; exact t105 g2⟩
    · rw [sg25 (by omega)] at h1; cases h1
      obtain ⟨o1, x, y, _, g2, g3, _, g5, g6, g7, _⟩ := h.two h2
      exact ⟨g5, by rw [g6, t105 g3, decide_eq_false h26], by rw [g7]; exact t105 g2⟩
  pal := by
    intro ho
    obtain ⟨i, o, τ', h1, h2, _⟩ := hi.ip (by omega)
    have hr := sg_some h1
    refine ⟨by omega, fun hb => ?_, fun hb => ?_⟩
    · have hb' := of_decide_eq_true hb
      by_cases h40 : 40 ≤ c.op ∧ c.op < 56
      · rw [sg40 h40] at h1; cases h1
        obtain ⟨o1, x, y, _, g2, g3, _, g5, g6, g7, _⟩ := h.two h2
        have hf : aluFrom c.op = false := by unfold aluFrom; exact decide_eq_false (by omega)
        exact ⟨g5, by rw [g6, hf]; exact t105 g3, by rw [g7, hf]; exact t105 g2⟩
      · have hf : aluFrom c.op = true := by unfold aluFrom; exact decide_eq_true (by omega)
        by_cases h73 : c.op < 73
        · rw [sg60 (by omega)] at h1; cases h1
          obtain ⟨o1, x, y, _, g2, g3, _, g5, g6, g7, _⟩ := h.two h2
          exact ⟨g5, by rw [g6, hf]; exact t108 g3, by rw [g7, hf]; exact t108 g2⟩
        · rw [sg73 (by omega)] at h1; cases h1
          obtain ⟨o1, x, y, _, g2, g3, _, g5, g6, g7, _⟩ := h.two h2
          exact ⟨g5, by rw [g6, hf]; exact t108 g3, by rw [g7, hf]; exact t108 g2⟩
    · have hb' := of_decide_eq_false hb
      by_cases h30 : c.op = 30 ∨ c.op = 31
      · rw [sg30 h30] at h1; cases h1
        obtain ⟨o1, y, _, g2, _, g4, g5, _⟩ := h.one h2
        have hf : aluFrom c.op = true := by unfold aluFrom; exact decide_eq_true (by omega)
        exact ⟨g4, by rw [g5, hf]; exact t108 g2⟩
      · have hf : aluFrom c.op = false := by unfold aluFrom; exact decide_eq_false (by omega)
        by_cases h29 : c.op = 29
        · rw [sg16 (by omega)] at h1; cases h1
          obtain ⟨o1, y, _, g2, _, g4, g5, _⟩ := h.one h2
          exact ⟨g4, by rw [g5, hf]; exact t105 g2⟩
        · rw [sg20 (by omega)] at h1; cases h1
          obtain ⟨o1, y, _, g2, _, g4, g5, _⟩ := h.one h2
          exact ⟨g4, by rw [g5, hf]; exact t105 g2⟩
  pno := by
    constructor
    · intro e
      obtain ⟨i, o, τ', h1, _⟩ := hi.ip (by omega)
      have := sg_some h1; omega
    · intro e
      obtain ⟨i, o, τ', h1, _⟩ := hi.ip (by omega)
      have := sg_some h1; omega
end Go.Wl
