/- compm: what can be read of the closed state. -/
import Derived.Test.Qxb6500573aGreatDoorCMB
namespace Go.Nm
open Go Go.Sl Go.Wl Go.Proofs
set_option linter.unusedVariables false
set_option linter.unusedSimpArgs false
theorem Cell.inF {pre H : Hp} {b o : Nat} {v : Value} (h : Cell pre b o v) : Cell (List.flatten pre :: H) b o v := by
  obtain ⟨c, T, fz, h1, h2⟩ := h
  exact ⟨c, T, fz, by unfold Has at *; simpa using Or.inl h1, h2⟩
theorem Cells.inF {pre H : Hp} {b o : Nat} {vs : List Value} (h : Cells pre b o vs) : Cells (List.flatten pre :: H) b o vs := by
  obtain ⟨c, T, fz, h1, h2⟩ := h
  exact ⟨c, T, fz, by unfold Has at *; simpa using Or.inl h1, h2⟩
section
variable {x : RX} {eb hb : List Nat} {m : RnM} {s : Seg}
theorem isRm.sc (h : isRm x eb hb m s) : ScM eb hb m := by obtain ⟨_, _, _, _, _, _, _, _, _, _, _, _, _, _, _, h⟩ := h; exact h
theorem isRm.rn (h : isRm x eb hb m s) : ∃ ca cc ha hc, ∀ H : Hp, Cells (s :: H) x.b 0 (rnV x ca ha cc hc m) := by
  obtain ⟨ca, cc, ha, hc, sN, sC, sH, sT, sB, rfl, _⟩ := h
  exact ⟨ca, cc, ha, hc, fun H => Cells.inF (Cells.head (by simp))⟩
theorem rnV_at (x : RX) (ca ha : Option Addr) (cc hc : Nat) (m : RnM) (h : m.stk.length = 5) : (rnV x ca ha cc hc m)[0]? = some (ptr x.nb) ∧ (rnV x ca ha cc hc m)[1]? = some (ptr x.tb) ∧ (rnV x ca ha cc hc m)[2]? = some (.slice x.na m.nodes.length x.nc) ∧ (rnV x ca ha cc hc m)[3]? = some (I m.root) ∧ (rnV x ca ha cc hc m)[11]? = some (I m.sp) ∧ (rnV x ca ha cc hc m)[12]? = some (I m.cur) ∧ (rnV x ca ha cc hc m)[13]? = some (I m.fuel) ∧ (rnV x ca ha cc hc m)[14]? = some (I m.first) ∧ (rnV x ca ha cc hc m)[15]? = some (S m.out) ∧ (rnV x ca ha cc hc m)[16]? = some (.bool m.done) := by
  obtain ⟨a, b, c, d, e, hs⟩ := five h
  unfold rnV
  rw [hs]
  exact ⟨rfl, rfl, rfl, rfl, rfl, rfl, rfl, rfl, rfl, rfl⟩
theorem isRm.at_ (h : isRm x eb hb m s) {j : Nat} {v : Value} (hv : ∀ ca ha cc hc, (rnV x ca ha cc hc m)[j]? = some v) (H : Hp) : Cell (s :: H) x.b (0 + j) v := by
  obtain ⟨ca, cc, ha, hc, hr⟩ := h.rn
  exact (hr H).cell (hv ca ha cc hc)
theorem isRm.cNum (h : isRm x eb hb m s) (H : Hp) : Cell (s :: H) x.b (0 + 0) (ptr x.nb) := h.at_ (fun ca ha cc hc => (rnV_at x ca ha cc hc m h.sc.st).1) H
theorem isRm.cTab (h : isRm x eb hb m s) (H : Hp) : Cell (s :: H) x.b (0 + 1) (ptr x.tb) := h.at_ (fun ca ha cc hc => (rnV_at x ca ha cc hc m h.sc.st).2.1) H
theorem isRm.cNodes (h : isRm x eb hb m s) (H : Hp) : Cell (s :: H) x.b (0 + 2) (.slice x.na m.nodes.length x.nc) := h.at_ (fun ca ha cc hc => (rnV_at x ca ha cc hc m h.sc.st).2.2.1) H
theorem isRm.cRoot (h : isRm x eb hb m s) (H : Hp) : Cell (s :: H) x.b (0 + 3) (I m.root) := h.at_ (fun ca ha cc hc => (rnV_at x ca ha cc hc m h.sc.st).2.2.2.1) H
theorem isRm.cSp (h : isRm x eb hb m s) (H : Hp) : Cell (s :: H) x.b (0 + 11) (I m.sp) := h.at_ (fun ca ha cc hc => (rnV_at x ca ha cc hc m h.sc.st).2.2.2.2.1) H
theorem isRm.cCur (h : isRm x eb hb m s) (H : Hp) : Cell (s :: H) x.b (0 + 12) (I m.cur) := h.at_ (fun ca ha cc hc => (rnV_at x ca ha cc hc m h.sc.st).2.2.2.2.2.1) H
theorem isRm.cFuel (h : isRm x eb hb m s) (H : Hp) : Cell (s :: H) x.b (0 + 13) (I m.fuel) := h.at_ (fun ca ha cc hc => (rnV_at x ca ha cc hc m h.sc.st).2.2.2.2.2.2.1) H
theorem isRm.cOut (h : isRm x eb hb m s) (H : Hp) : Cell (s :: H) x.b (0 + 15) (S m.out) := h.at_ (fun ca ha cc hc => (rnV_at x ca ha cc hc m h.sc.st).2.2.2.2.2.2.2.2.1) H
theorem isRm.cDone (h : isRm x eb hb m s) (H : Hp) : Cell (s :: H) x.b (0 + 16) (.bool m.done) := h.at_ (fun ca ha cc hc => (rnV_at x ca ha cc hc m h.sc.st).2.2.2.2.2.2.2.2.2) H
theorem isRm.node (h : isRm x eb hb m s) {n : Nat} (hn : n < m.nodes.length) : ∃ nk, x.na = some ⟨nk, 0, none⟩ ∧ ∀ H : Hp, Cells (s :: H) nk (0 + n * 8) (ndV m.nodes[n]) := by
  obtain ⟨ca, cc, ha, hc, sN, sC, sH, sT, sB, rfl, h1, _⟩ := h
  obtain ⟨nk, nsp, e1, _, _, rfl⟩ := h1.row (by omega)
  refine ⟨nk, e1, fun H => Cells.inF (Cells.tail ?_)⟩
  have := flat_cells (sp := nsp) (b := nk) (T := 158) (H := [sC, sH, sT, evS eb eb m.envs, sB]) (j := (n : Int)) ndV_len rfl hn
  simpa using this
theorem isRm.clo (h : isRm x eb hb m s) {n : Nat} (hn : n < m.clos.length) : ∃ ck cc, (∀ H : Hp, Cell (s :: H) x.b (0 + 4) (.slice (some ⟨ck, 0, none⟩) m.clos.length cc)) ∧ ∀ H : Hp, Cells (s :: H) ck (0 + n * 2) (clV eb m.clos[n]) := by
  have hst := h.sc.st
  obtain ⟨ca, cc, ha, hc, sN, sC, sH, sT, sB, rfl, h1, h2, _⟩ := h
  obtain ⟨ck, csp, rfl, _, _, rfl⟩ := h2.row (by omega)
  refine ⟨ck, cc, fun H => Cell.inF (Cell.head ?_), fun H => Cells.inF (Cells.tail (Cells.tail ?_))⟩
  · obtain ⟨a, b, c, d, e, hs⟩ := five hst
    unfold rnV; rw [hs]; rfl
  · have := flat_cells (sp := csp) (b := ck) (T := 148) (H := [sH, sT, evS eb eb m.envs, sB]) (j := (n : Int)) (clV_len eb) rfl hn
    simpa using this
theorem thsR_at {eb bs : List Nat} {ts : List ThM} {s : Seg} (h : thsR eb bs ts s) {i : Nat} (hi : i < ts.length) : ∃ s0 si s2, s = List.flatten [s0, si, s2] ∧ thR eb (bs.getD i 0) ts[i] si := by
  obtain ⟨s0, si, s2, h1, h2, _⟩ := thsR_split eb h hi
  exact ⟨s0, si, s2, h1, h2⟩
/-- Thread c. -/
theorem isRm.thr (h : isRm x eb hb m s) {c : Nat} (hc : c < m.ths.length) : ∃ hk hcp ta tc va vc, (∀ H : Hp, Cell (s :: H) x.b (0 + 5) (.slice (some ⟨hk, 0, none⟩) m.ths.length hcp)) ∧ (∀ H : Hp, Cell (s :: H) hk (0 + c * 1) (ptr (hb.getD c 0))) ∧
    (∀ H : Hp, Cells (s :: H) (hb.getD c 0) 0 [I m.ths[c].st, I m.ths[c].fn, I m.ths[c].depth, .slice ta m.ths[c].tasks.length tc, .slice va m.ths[c].vals.length vc]) ∧
    (∀ i (hi : i < m.ths[c].tasks.length), ∃ tk, ta = some ⟨tk, 0, none⟩ ∧ ∀ H : Hp, Cells (s :: H) tk (0 + i * 4) (tskV eb m.ths[c].tasks[i])) ∧
    (∀ i (hi : i < m.ths[c].vals.length), ∃ vk, va = some ⟨vk, 0, none⟩ ∧ ∀ H : Hp, Cells (s :: H) vk (0 + i * 3) (valV m.ths[c].vals[i])) := by
  have hst := h.sc.st
  have hhl := h.sc.hl
  obtain ⟨ca, cc, ha, hc', sN, sC, sH, sT, sB, rfl, h1, h2, h3, h4, _⟩ := h
  obtain ⟨hk, hsp, rfl, _, _, rfl⟩ := h3.row (by omega)
  obtain ⟨s0, si, s2, rfl, ta, tc, va, vc, sa, sv, rfl, g1, g2⟩ := thsR_at h4 hc
  refine ⟨hk, hc', ta, tc, va, vc, fun H => Cell.inF (Cell.head ?_), fun H => ?_, fun H => ?_, fun i hi => ?_, fun i hi => ?_⟩
  · obtain ⟨a, b, c, d, e, hs⟩ := five hst
    unfold rnV; rw [hs]; rfl
  · refine Cell.inF (Cell.tail (Cell.tail (Cell.tail (Cell.head ?_))))
    rw [Nat.mul_one, Nat.zero_add, List.getElem?_append_left (by rw [List.length_map]; omega), List.getElem?_map, List.getElem?_eq_getElem (by omega), List.getD_eq_getElem?_getD, List.getElem?_eq_getElem (by omega)]
    rfl
  · exact Cells.inF (Cells.tail (Cells.tail (Cells.tail (Cells.tail (Cells.inF (Cells.tail (Cells.inF (Cells.head rfl))))))))
  · obtain ⟨tk, tsp, rfl, _, _, rfl⟩ := g1.row (by omega)
    refine ⟨tk, rfl, fun H => Cells.inF (Cells.tail (Cells.tail (Cells.tail (Cells.tail (Cells.inF (Cells.tail (Cells.inF (Cells.tail ?_))))))))⟩
    have := flat_cells (sp := tsp) (b := tk) (T := 206) (H := [sv]) (j := (i : Int)) (tskV_len eb) rfl hi
    simpa using this
  · obtain ⟨vk, vsp, rfl, _, _, rfl⟩ := g2.row (by omega)
    refine ⟨vk, rfl, fun H => Cells.inF (Cells.tail (Cells.tail (Cells.tail (Cells.tail (Cells.inF (Cells.tail (Cells.inF (Cells.tail (Cells.tail ?_)))))))))⟩
    have := flat_cells (sp := vsp) (b := vk) (T := 42) (H := []) (j := (i : Int)) valV_len rfl hi
    simpa using this
/-- A variable. -/
theorem isRm.env (h : isRm x eb hb m s) {i : Nat} (hi : i < m.envs.length) (H : Hp) : Cells (s :: H) (eb.getD i 0) 0 (evV eb m.envs[i]) := by
  have hel := h.sc.el
  obtain ⟨ca, cc, ha, hc', sN, sC, sH, sT, sB, rfl, _⟩ := h
  obtain ⟨s0, s2, h1, _⟩ := evS_split eb eb m.envs i hel hi
  refine Cells.inF (Cells.tail (Cells.tail (Cells.tail (Cells.tail (Cells.tail ?_)))))
  rw [h1]
  have : Cells (List.flatten [s0, blk (eb.getD i 0) 204 (evV eb m.envs[i]), s2] :: [sB]) (eb.getD i 0) 0 (evV eb m.envs[i]) := Cells.inF (Cells.tail (Cells.head (by simp)))
  simpa using this
end
end Go.Nm
