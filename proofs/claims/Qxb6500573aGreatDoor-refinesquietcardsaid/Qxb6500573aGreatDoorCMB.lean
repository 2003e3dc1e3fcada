/- compm: openings of the run's state. -/
import Derived.Test.Qxb6500573aGreatDoorCMA
namespace Go.Nm
open Go Go.Sl Go.Wl Go.Proofs
set_option linter.unusedVariables false
set_option linter.unusedSimpArgs false
theorem five {l : List Int} (h : l.length = 5) : ∃ a b c d e, l = [a, b, c, d, e] := by
  match l, h with
  | [a, b, c, d, e], _ => exact ⟨a, b, c, d, e, rfl⟩
/-- The run's own cells, the rest closed. -/
theorem isRm_run {x : RX} {eb hb : List Nat} {m : RnM} {s : Seg} (h : isRm x eb hb m s) :
    ∃ ca cc ha hc s0 s1 s2 s3 s4 R, s = List.flatten [blk x.b 142 [ptr x.nb, ptr x.tb, .slice x.na m.nodes.length x.nc, I m.root, .slice ca m.clos.length cc, .slice ha m.ths.length hc, I s0, I s1, I s2, I s3, I s4, I m.sp, I m.cur, I m.fuel, I m.first, S m.out, .bool m.done, I m.ans.e, I m.ans.n, I m.ans.m, S m.ans.s, S m.ans.t], R] ∧ m.stk = [s0, s1, s2, s3, s4] ∧
      ∀ (m' : RnM) (t0 t1 t2 t3 t4 : Int), m'.nodes = m.nodes → m'.root = m.root → m'.clos = m.clos → m'.ths = m.ths → m'.envs = m.envs → m'.ts = m.ts → m'.stk = [t0, t1, t2, t3, t4] →
        isRm x eb hb m' (List.flatten [blk x.b 142 [ptr x.nb, ptr x.tb, .slice x.na m.nodes.length x.nc, I m.root, .slice ca m.clos.length cc, .slice ha m.ths.length hc, I t0, I t1, I t2, I t3, I t4, I m'.sp, I m'.cur, I m'.fuel, I m'.first, S m'.out, .bool m'.done, I m'.ans.e, I m'.ans.n, I m'.ans.m, S m'.ans.s, S m'.ans.t], R]) := by
  obtain ⟨ca, cc, ha, hc, sN, sC, sH, sT, sB, rfl, h1, h2, h3, h4, h5, h6⟩ := h
  obtain ⟨s0, s1, s2, s3, s4, hs⟩ := five h6.st
  refine ⟨ca, cc, ha, hc, s0, s1, s2, s3, s4, List.flatten [sN, sC, sH, sT, evS eb eb m.envs, sB], ?_, hs, ?_⟩
  · unfold rnV; rw [hs]; simp
  · intro m' t0 t1 t2 t3 t4 e1 e2 e3 e4 e5 e6 e7
    refine ⟨ca, cc, ha, hc, sN, sC, sH, sT, sB, ?_, by rw [e1]; exact h1, by rw [e3]; exact h2, by rw [e4]; exact h3, by rw [e4]; exact h4, by rw [e6]; exact h5, ⟨by rw [e5]; exact h6.el, by rw [e4]; exact h6.hl, by rw [e4]; exact h6.tk, by rw [e3]; exact h6.cl, by rw [e5]; exact h6.ev, by rw [e7]; rfl⟩⟩
    unfold rnV
    rw [e7, e1, e2, e3, e4, e5]; simp
/-- The thread at hand, opened. -/
theorem isRm_open {x : RX} {eb hb : List Nat} {m : RnM} {s : Seg} (h : isRm x eb hb m s) {c : Nat} (hc : c < m.ths.length) :
    ∃ ca cc hk hc' hsp s0 s1 s2 s3 s4 sX sA sZ R ta tc va vc sa sv, s = List.flatten [blk x.b 142 [ptr x.nb, ptr x.tb, .slice x.na m.nodes.length x.nc, I m.root, .slice ca m.clos.length cc, .slice (some ⟨hk, 0, none⟩) m.ths.length hc', I s0, I s1, I s2, I s3, I s4, I m.sp, I m.cur, I m.fuel, I m.first, S m.out, .bool m.done, I m.ans.e, I m.ans.n, I m.ans.m, S m.ans.s, S m.ans.t],
        sX, blk hk 149 (hb.map ptr ++ hsp), sA, List.flatten [blk (hb.getD c 0) 152 [I m.ths[c].st, I m.ths[c].fn, I m.ths[c].depth, .slice ta m.ths[c].tasks.length tc, .slice va m.ths[c].vals.length vc], sa, sv], sZ, R] ∧ m.stk = [s0, s1, s2, s3, s4] ∧ hb.length = m.ths.length ∧
      Arr 206 4 ta m.ths[c].tasks.length tc (m.ths[c].tasks.flatMap (tskV eb)) sa ∧ Arr 42 3 va m.ths[c].vals.length vc (m.ths[c].vals.flatMap valV) sv ∧ (∀ q, q ∈ m.ths[c].tasks → eIn eb.length q.e) ∧
      ∀ (m' : RnM) (t0 t1 t2 t3 t4 : Int) (th' : ThM) (ta' : Option Addr) (tc' : Nat) (va' : Option Addr) (vc' : Nat) (sa' sv' : Seg) (nt nv : Nat), m'.nodes = m.nodes → m'.root = m.root → m'.clos = m.clos → m'.ths = m.ths.set c th' → m'.envs = m.envs → m'.ts = m.ts → m'.stk = [t0, t1, t2, t3, t4] →
        th'.tasks.length = nt → th'.vals.length = nv → Arr 206 4 ta' nt tc' (th'.tasks.flatMap (tskV eb)) sa' → Arr 42 3 va' nv vc' (th'.vals.flatMap valV) sv' → (∀ q, q ∈ th'.tasks → eIn eb.length q.e) →
        isRm x eb hb m' (List.flatten [blk x.b 142 [ptr x.nb, ptr x.tb, .slice x.na m.nodes.length x.nc, I m.root, .slice ca m.clos.length cc, .slice (some ⟨hk, 0, none⟩) m.ths.length hc', I t0, I t1, I t2, I t3, I t4, I m'.sp, I m'.cur, I m'.fuel, I m'.first, S m'.out, .bool m'.done, I m'.ans.e, I m'.ans.n, I m'.ans.m, S m'.ans.s, S m'.ans.t],
          sX, blk hk 149 (hb.map ptr ++ hsp), sA, List.flatten [blk (hb.getD c 0) 152 [I th'.st, I th'.fn, I th'.depth, .slice ta' nt tc', .slice va' nv vc'], sa', sv'], sZ, R]) := by
  obtain ⟨ca, cc, ha, hc', sN, sC, sH, sT, sB, rfl, h1, h2, h3, h4, h5, h6⟩ := h
  obtain ⟨s0, s1, s2, s3, s4, hs⟩ := five h6.st
  obtain ⟨hk, hsp, rfl, hh1, hh2, rfl⟩ := h3.row (by omega)
  obtain ⟨sA, si, sZ, rfl, ⟨ta, tc, va, vc, sa, sv, rfl, g1, g2⟩, hput⟩ := thsR_split eb h4 hc
  refine ⟨ca, cc, hk, hc', hsp, s0, s1, s2, s3, s4, List.flatten [sN, sC], sA, sZ, List.flatten [evS eb eb m.envs, sB], ta, tc, va, vc, sa, sv, ?_, hs, h6.hl, g1, g2, h6.tk _ (List.getElem_mem hc), ?_⟩
  · unfold rnV; rw [hs]; simp
  · intro m' t0 t1 t2 t3 t4 th' ta' tc' va' vc' sa' sv' nt nv e1 e2 e3 e4 e5 e6 e7 l1 l2 a1 a2 a3
    subst l1 l2
    refine ⟨ca, cc, some ⟨hk, 0, none⟩, hc', sN, sC, blk hk 149 (hb.map ptr ++ hsp), _, sB, ?_, by rw [e1]; exact h1, by rw [e3]; exact h2, by rw [e4, List.length_set]; exact Arr.mk (by rw [List.length_map, h6.hl, Nat.mul_one]) hh1 hh2, by rw [e4]; exact hput th' _ ⟨ta', tc', va', vc', sa', sv', rfl, a1, a2⟩, by rw [e6]; exact h5, ?_⟩
    · unfold rnV
      rw [e7, e1, e2, e3, e4, e5, List.length_set]; simp
    · refine ⟨by rw [e5]; exact h6.el, by rw [e4, List.length_set]; exact h6.hl, ?_, by rw [e3]; exact h6.cl, by rw [e5]; exact h6.ev, by rw [e7]; rfl⟩
      rw [e4]
      intro t ht
      rcases List.mem_or_eq_of_mem_set ht with q | q
      · exact h6.tk t q
      · subst q; exact a3
end Go.Nm
