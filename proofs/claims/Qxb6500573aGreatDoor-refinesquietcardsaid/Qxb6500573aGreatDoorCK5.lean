/- Plain: package comp: what a check reads and wants. -/
import Derived.Test.Qxb6500573aGreatDoorWImg
import Derived.Test.Qxb6500573aGreatDoorSlBs
namespace Go.Sl
open Go Go.Wl Go.Proofs
set_option linter.unusedVariables false
section
variable {P : Program} {n : Nat} {ty : TypeId} {ρ : Env} {H : Hp}
/-- A pointer is itself. -/
theorem y_peq_same {t e u : TypeId} {x y : Operand} {a : Addr} {z : Nat} (ht : P.underlying t = some (.pointer e)) (hz : ∀ w, (sizeOf e).run P w = .ok (z + 1) w) (hx : ev ρ x = some (.pointer (some a))) (hy : ev ρ y = some (.pointer (some a))) : Yo P n (.binOp .eql t x y u) ty ρ H (.bool true) := by
  intro D b A h w hf ho hs
  have he : ∀ d : Nat, (Op.equalIn (d + 1) t (.pointer (some a)) (.pointer (some a))).run P w = .ok true w := fun d => by
    simp [Op.equalIn, run_underlying ht, hz, run_sameAddr_same]
  have he' : (Op.equal t (.pointer (some a)) (.pointer (some a))).run P w = .ok true w := he 9999
  simp only [runs, execOp, hf.ev hx, hf.ev hy, eqGuard, Sem.run_bind, binOp]
  simp [he']
theorem y_slNil {t e u : TypeId} {x y : Operand} (ht : P.underlying t = some (.slice e)) (hx : ev ρ x = some (.slice none 0 0)) (hy : ev ρ y = some (.slice none 0 0)) : Yo P n (.binOp .neq t x y u) ty ρ H (.bool false) := by
  intro D b A h w hf ho hs
  have he : ∀ d : Nat, (Op.equalIn (d + 1) t (.slice none 0 0) (.slice none 0 0)).run P w = .ok true w := fun d => by
    simp [Op.equalIn, run_underlying ht]
  have he' : (Op.equal t (.slice none 0 0) (.slice none 0 0)).run P w = .ok true w := he 9999
  simp only [runs, execOp, hf.ev hx, hf.ev hy, eqGuard, Sem.run_bind, binOp]
  simp [he']
theorem y_cutS {t e : TypeId} {z : Nat} {x hi : Operand} {kd : IntKind} {b m c : Nat} {j : Int} (ht : P.underlying t = some (.slice e)) (hz : ∀ w, (sizeOf e).run P w = .ok z w)
    (hx : ev ρ x = some (.slice (some ⟨b, 0, none⟩) m c)) (hh : ev ρ hi = some (.int kd j)) (h : 0 ≤ j ∧ j ≤ m ∧ m ≤ c) (h0 : 0 < m) : Yo P n (.slice t x none (some hi) none) ty ρ H (.slice (some ⟨b, 0, none⟩) j.toNat c) :=
  y_cut (Arr.mk (T := 5) (k := 1) (xs := List.replicate m (I 0)) (sp := List.replicate (c - m) (I 0)) (b := b) (by simp) h.2.2 (by simp)) ht hz hx hh ⟨h.1, by omega⟩
end
end Go.Sl
namespace Go.Wl
open Go Go.Sl Go.Proofs
set_option linter.unusedVariables false
theorem segC {segs : Hp} {s : Seg} {H : Hp} {b o : Nat} {v : Value} (hs : s ∈ segs) (h : Cell [s] b o v) : Cell (List.flatten segs :: H) b o v := by
  obtain ⟨c, T, fz, h1, h2⟩ := h
  refine ⟨c, T, fz, ?_, h2⟩
  have h3 : (b, Obj.cells c T fz) ∈ s := by simpa [Has] using h1
  exact List.mem_flatten.2 ⟨_, List.mem_cons_self, List.mem_flatten.2 ⟨s, hs, h3⟩⟩
theorem segCs {segs : Hp} {s : Seg} {H : Hp} {b o : Nat} {vs : List Value} (hs : s ∈ segs) (h : Cells [s] b o vs) : Cells (List.flatten segs :: H) b o vs := by
  obtain ⟨c, T, fz, h1, h2⟩ := h
  refine ⟨c, T, fz, ?_, h2⟩
  have h3 : (b, Obj.cells c T fz) ∈ s := by simpa [Has] using h1
  exact List.mem_flatten.2 ⟨_, List.mem_cons_self, List.mem_flatten.2 ⟨s, hs, h3⟩⟩
theorem arrN {α : Type} {f : α → List Value} {k : Nat} (hf : ∀ x, (f x).length = k) {T : TypeId} {a : Option Addr} {l : List α} {c : Nat} {s : Seg} (hA : Arr T k a l.length c (l.flatMap f) s) {i : Nat} {x : α} (hi : l[i]? = some x) :
    ∃ q, a = some ⟨q, 0, none⟩ ∧ Cells [s] q (0 + ((i : Nat) : Int).toNat * k) (f x) := by
  obtain ⟨h1, h2⟩ := List.getElem?_eq_some_iff.1 hi
  obtain ⟨q, sp, rfl, _, _, rfl⟩ := hA.row (by omega)
  exact ⟨q, rfl, flat_cellsE hf rfl h1 h2⟩
section
variable {cb fb : Nat} {pv dv : Value} {s : CS} {buf : List Int} {seg : Seg}
theorem isCr.hd (h : isCr cb fb pv dv s buf seg) : ∃ ba bc, ∀ (H : Hp) (q : Nat) (v : Value), [pv, dv, .slice none 0 0, .slice (some ⟨fb, 0, none⟩) 13 13, I s.np, .slice ba buf.length bc][q]? = some v → Cell (seg :: H) cb (0 + q) v := by
  obtain ⟨cs, st, ba, bc, sb, rfl, _⟩ := h
  refine ⟨ba, bc, fun H q v hv => segC (s := crest cb fb pv dv s.np ba buf.length bc) (by simp) ?_⟩
  rw [Nat.zero_add]
  exact Cell.head hv
/-- A function's cells. -/
theorem isCr.fn (h : isCr cb fb pv dv s buf seg) {k : Nat} {f : Fs} (hk : s.fs[k]? = some f) (hl : f.live = true) :
    ∃ (la : Option Addr) (lc : Nat) (ua : Option Addr) (uc : Nat) (ka : Option Addr) (kc : Nat) (oa : Option Addr) (oc : Nat) (qa : Option Addr) (qc : Nat) (bn bs : Nat) (sn ss : Seg),
      (∀ (H : Hp) (q : Nat) (v : Value), [pt cb, parV fb f.parent, I f.nparams, .slice la f.locals.length lc, I f.nslots, .slice ua f.ups.length uc, .slice ka f.consts.length kc, .map (some bn), .map (some bs), .slice oa f.code.length oc, .slice qa f.loops.length qc][q]? = some v → Cell (seg :: H) fb (0 + k * 11 + q) v) ∧
      (f.ups.length ≤ uc ∧ ∀ (i : Nat) d, f.ups[i]? = some d → ∃ q, ua = some ⟨q, 0, none⟩ ∧ ∀ H : Hp, Cells (seg :: H) q (0 + ((i : Nat) : Int).toNat * 2) (upV d)) ∧
      (∀ (i : Nat) v, f.consts[i]? = some v → ∃ q, ka = some ⟨q, 0, none⟩ ∧ ∀ H : Hp, Cells (seg :: H) q (0 + ((i : Nat) : Int).toNat * 3) (valV v)) ∧
      (∀ (i : Nat) v, f.code[i]? = some v → ∃ q, oa = some ⟨q, 0, none⟩ ∧ ∀ H : Hp, Cells (seg :: H) q (0 + ((i : Nat) : Int).toNat * 2) (insV v)) ∧
      (isMap u64K u16V bn f.nums sn ∧ ∀ p, p ∈ sn → p ∈ seg) ∧ isMap S u16V bs f.strs ss ∧ ∀ p, p ∈ ss → p ∈ seg := by
  obtain ⟨cs, st, ba, bc, sb, rfl, hR, h13, hnp, hb⟩ := h
  obtain ⟨hk1, he⟩ := List.getElem?_eq_some_iff.1 hk
  obtain ⟨c0, ci, c2, s0, si, s2, rfl, rfl, h1, h2, h3, h4⟩ := hR.split (fnR_len _ _) hk1
  rw [he] at h3
  obtain ⟨h, rfl, rfl, hF⟩ := h3
  obtain ⟨la, lc, ua, uc, ka, kc, oa, oc, qa, qc, mn, ms, cv, pv', ls, us, ks, sn, ss, os, qs, ql⟩ := h
  obtain ⟨g1, g2, g3, g4, ⟨lcs, g5, g6⟩, g7⟩ := hF
  obtain ⟨e1, e2, bn, bs, e3, e4, m1, m2⟩ := g7 hl
  dsimp only at e1 e2 e3 e4 m1 m2 g2 g3 g4
  subst e1 e2 e3 e4
  have hin : ∀ {x : Seg}, x ∈ [ls, us, ks, sn, ss, os, qs, ql] → ∀ p, p ∈ x → p ∈ List.flatten [crest cb fb pv dv s.np ba buf.length bc, blk fb 96 (c0 ++ [pt cb, parV fb f.parent, I f.nparams, .slice la f.locals.length lc, I f.nslots, .slice ua f.ups.length uc, .slice ka f.consts.length kc, .map (some bn), .map (some bs), .slice oa f.code.length oc, .slice qa f.loops.length qc] ++ c2), List.flatten [s0, List.flatten [ls, us, ks, sn, ss, os, qs, ql], s2], sb] := fun {x} hx p hp => by
    refine List.mem_flatten.2 ⟨_, List.mem_cons_of_mem _ (List.mem_cons_of_mem _ List.mem_cons_self), List.mem_flatten.2 ⟨_, List.mem_cons_of_mem _ List.mem_cons_self, List.mem_flatten.2 ⟨x, hx, hp⟩⟩⟩
  have lift : ∀ {x : Seg}, x ∈ [ls, us, ks, sn, ss, os, qs, ql] → ∀ {q o : Nat} {vs : List Value}, Cells [x] q o vs → ∀ H : Hp, Cells (List.flatten [crest cb fb pv dv s.np ba buf.length bc, blk fb 96 (c0 ++ [pt cb, parV fb f.parent, I f.nparams, .slice la f.locals.length lc, I f.nslots, .slice ua f.ups.length uc, .slice ka f.consts.length kc, .map (some bn), .map (some bs), .slice oa f.code.length oc, .slice qa f.loops.length qc] ++ c2), List.flatten [s0, List.flatten [ls, us, ks, sn, ss, os, qs, ql], s2], sb] :: H) q o vs := fun {x} hx {q o vs} hc H => segCs (s := List.flatten [s0, List.flatten [ls, us, ks, sn, ss, os, qs, ql], s2]) (by simp) (segCs (segs := [s0, List.flatten [ls, us, ks, sn, ss, os, qs, ql], s2]) (s := List.flatten [ls, us, ks, sn, ss, os, qs, ql]) (by simp) (segCs (s := x) hx hc))
  refine ⟨la, lc, ua, uc, ka, kc, oa, oc, qa, qc, bn, bs, sn, ss, fun H q v hv => ?_, ⟨?_, fun i d hi => ?_⟩, fun i d hi => ?_, fun i d hi => ?_, ⟨m1, hin (by simp)⟩, m2, hin (by simp)⟩
  · refine segC (s := blk fb 96 (c0 ++ [pt cb, parV fb f.parent, I f.nparams, .slice la f.locals.length lc, I f.nslots, .slice ua f.ups.length uc, .slice ka f.consts.length kc, .map (some bn), .map (some bs), .slice oa f.code.length oc, .slice qa f.loops.length qc] ++ c2)) (by simp) ?_
    exact Cell.amid (by omega) hv
  · rcases g2.2 with ⟨_, e, _⟩ | ⟨_, _, _, e, _⟩ <;> omega
  · obtain ⟨q, hq, hc⟩ := arrN upV_len g2 hi
    exact ⟨q, hq, lift (by simp) hc⟩
  · obtain ⟨q, hq, hc⟩ := arrN valV_len g3 hi
    exact ⟨q, hq, lift (by simp) hc⟩
  · obtain ⟨q, hq, hc⟩ := arrN insV_len g4 hi
    exact ⟨q, hq, lift (by simp) hc⟩
end
/-- An instruction in its range. -/
structure FitP (f : Fs) (np : Int) (i : In) : Prop where
  r : (1 ≤ i.1 ∧ i.1 ≤ 32) ∧ 0 ≤ i.2 ∧ i.2 ≤ 65535
  k : i.1 = 1 → i.2 < f.consts.length
  g : i.1 = 9 ∨ i.1 = 10 → ∃ v, f.consts[i.2.toNat]? = some v ∧ v.t = 3
  l : i.1 = 5 ∨ i.1 = 6 ∨ i.1 = 30 ∨ i.1 = 31 ∨ i.1 = 32 ∨ i.1 = 29 → i.2 < f.nslots
  u : i.1 = 7 ∨ i.1 = 8 → i.2 < f.ups.length
  a : i.1 = 15 ∨ i.1 = 16 → 1 ≤ i.2 ∧ i.2 ≤ 6
  j : i.1 = 21 ∨ i.1 = 22 ∨ i.1 = 23 ∨ i.1 = 24 → i.2 < f.code.length
  c : i.1 = 26 → i.2 ≤ 3
  s : i.1 = 13 → 1 ≤ i.2 ∧ i.2 ≤ 300
  fc : i.1 = 28 → 1 ≤ i.2 ∧ i.2 < np
  z : i.1 ≠ 1 → i.1 ≠ 9 → i.1 ≠ 10 → i.1 ≠ 5 → i.1 ≠ 6 → i.1 ≠ 30 → i.1 ≠ 31 → i.1 ≠ 32 → i.1 ≠ 29 → i.1 ≠ 7 → i.1 ≠ 8 → i.1 ≠ 15 → i.1 ≠ 16 → i.1 ≠ 21 → i.1 ≠ 22 → i.1 ≠ 23 → i.1 ≠ 24 → i.1 ≠ 26 → i.1 ≠ 13 → i.1 ≠ 28 → i.2 = 0
  t : i.1 = 30 ∨ i.1 = 31 ∨ i.1 = 32 → i.2 + 3 < f.nslots
/-- A finished function, the x-th. -/
structure FnC (s : CS) (x : Nat) (f : Fs) : Prop where
  lv : f.live = true
  np : (0 ≤ f.nparams ∧ f.nparams ≤ 3) ∧ f.nparams = f.locals.length ∧ (f.locals.length ≤ f.nslots ∧ f.nslots ≤ 12)
  ln : f.ups.length ≤ 144 ∧ f.consts.length ≤ 301 ∧ f.code.length ≤ 5104 ∧ f.loops.length = 0
  pa : (x = 0 → f.parent = none ∧ f.ups = []) ∧ (x ≠ 0 → ∃ p g, f.parent = some p ∧ s.fs[p]? = some g ∧ g.live = true ∧ p < 13 ∧ ∀ d, d ∈ f.ups → (0 ≤ d.1 ∧ d.1 ≤ 1) ∧ (0 ≤ d.2 ∧ d.2 < 256) ∧ (d.1 = 1 → d.2 < g.nslots) ∧ (d.1 = 0 → d.2 < g.ups.length))
  nd : f.ups.Nodup
  po : f.nums.length + f.strs.length = f.consts.length
  ks : ∀ (i : Nat) v, f.consts[i]? = some v → (v.t = 2 → mfind f.nums v.n = some (i : Int)) ∧ (v.t ≠ 2 → mfind f.strs v.s = some (i : Int)) ∧ v.s.length ≤ 40 ∧ (v.t = 2 ∨ v.t = 3)
  fi : ∀ (i : Nat) v, f.code[i]? = some v → FitP f s.np v
  ch : ∀ (i : Nat) v, f.code[i]? = some v → v.1 = 28 → (x : Int) < v.2 ∧ ∃ g, s.fs[v.2.toNat]? = some g ∧ g.live = true ∧ g.parent = some x
  en : 3 ≤ f.code.length ∧ (∀ v, f.code[f.code.length - 3]? = some v → v.1 = 2) ∧ (∀ v, f.code[f.code.length - 2]? = some v → v.1 = 2) ∧ ∀ v, f.code[f.code.length - 1]? = some v → v.1 = 27
end Go.Wl
