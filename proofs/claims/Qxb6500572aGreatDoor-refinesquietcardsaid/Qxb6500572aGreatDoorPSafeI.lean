/- How a call ends: what the laws ask of it. -/
import Derived.Test.Qxb6500572aGreatDoorPSafeH
namespace Go.Sl
open Go Go.Wl Go.Proofs
set_option linter.unusedVariables false
variable {P : Prog} {mem : Mem} {o : Op1} {args : List Val} {m m' : VM}
theorem trace0 (o : Op1) : traceOf (host0 o) = [] := by
  unfold traceOf host0; dsimp only
  repeat' split
  all_goals rfl
/-- Behind whatever step: fuel, the stack's height, the program. -/
theorem Gd.behind (hT : TOk P mem) (h : Gd P mem o args m) {q : Option Int} (hs : m.step o.b = (m', q)) : m'.P = P ∧ (0 ≤ m'.i.used ∧ (m'.i.used ≤ o.b ∨ m'.i.used ≤ 0)) ∧ ((m.i.st.length : Int) ≤ m'.i.high ∧ m'.i.high ≤ 124) ∧ MOk m'.mem ∧ (o.b ≤ 0 → m'.mem = mem ∧ m'.host = host0 o ∧ m'.i.used = 0) := by
  have hl := h.stl hT
  have hu := h.u0
  have hh := h.hi
  unfold VM.step at hs
  split at hs
  · rename_i hfree
    have e : m' = (m.fetch.exec m.at).1 := by rw [hs]
    have hsame := exec_same m.fetch m.at
    rw [← e] at hsame
    have hus : m'.i.used = m.i.used := hsame.used
    have hhi : m'.i.high = max m.i.high m.i.st.length := hsame.high
    refine ⟨hsame.P.trans h.pe, by rw [hus]; omega, by rw [hhi]; omega, by rw [e]; exact exec_mem h.mm, fun hb => ?_⟩
    have hf := exec_free (m := m.fetch) hfree
    obtain ⟨f1, f2, f3, _⟩ := h.foot hb
    exact ⟨by rw [e, hf.1]; exact f1, by rw [e, hf.2]; exact f2, by rw [hus]; exact f3⟩
  · split at hs
    · rename_i hlt
      have e : m' = (m.fetch.pay.exec m.at).1 := by rw [hs]
      have hsame := exec_same m.fetch.pay m.at
      rw [← e] at hsame
      have hus : m'.i.used = m.i.used + 1 := hsame.used
      have hhi : m'.i.high = max m.i.high m.i.st.length := hsame.high
      exact ⟨hsame.P.trans h.pe, by rw [hus]; omega, by rw [hhi]; omega, by rw [e]; exact exec_mem (m := m.fetch.pay) h.mm, fun hb => by have := h.foot hb; omega⟩
    · cases hs
      refine ⟨h.pe, by show 0 ≤ m.i.used ∧ (m.i.used ≤ o.b ∨ m.i.used ≤ 0); omega, by show (m.i.st.length : Int) ≤ max m.i.high m.i.st.length ∧ max m.i.high m.i.st.length ≤ 124; omega, h.mm, fun hb => ?_⟩
      obtain ⟨f1, f2, f3, _⟩ := h.foot hb
      exact ⟨f1, f2, f3⟩
theorem Gd.low (h : Gd P mem o args m) {u : Fun} (h0 : 0 ≤ o.a) (hu : P.funs[o.a.toNat]? = some u) : u.params.length + u.locals.length ≤ m.i.st.length := by
  obtain ⟨k, pc, u1, T, τ, below, locs, ops, top, rest, tf⟩ := h.g
  have hb : Below P (top :: rest) m.i.st [] := ⟨k, pc, u1, T, τ, below, locs, ops, tf.f, tf.pcv, tf.dn, tf.fu, tf.fl, by rw [List.append_nil]; exact tf.tp, tf.st, tf.lt, tf.ot, tf.base, tf.floor, tf.res, tf.bl⟩
  obtain ⟨fr0, g1, g2⟩ := h.bot
  have hl : (top :: rest).getLast? = some fr0 := by
    rw [← g1, tf.fr, show rest.reverse ++ [top] = (top :: rest).reverse by simp, List.head?_reverse]
  obtain ⟨k', u', a1, a2, a3⟩ := below_bot hb hl
  have : k' = o.a.toNat := by omega
  subst this
  rw [hu] at a2; cases a2; exact a3
/-- The closing round. -/
theorem Gd.last (hT : TOk P mem) (h : Gd P mem o args m) {u : Fun} (h0 : 0 ≤ o.a) (hu : P.funs[o.a.toNat]? = some u) (hs : m.step o.b = (m', some 0)) : m'.i.st.map W.t = u.results ∧ u.params.length + u.locals.length + u.results.length ≤ m.i.st.length ∧ (o.b ≤ 0 → u.results = []) := by
  have key : ∀ m1 : VM, m1.i.st = m.i.st → m1.i.fr = m.i.fr → m1.exec m.at = (m', some 0) → m'.i.st.map W.t = u.results ∧ u.params.length + u.locals.length + u.results.length ≤ m.i.st.length ∧ (o.b ≤ 0 → u.results = []) := by
    intro m1 h1 h2 h3
    obtain ⟨rfl, h5, hop⟩ := exec_done h3
    obtain ⟨k, pc, u1, T, τ, below, locs, ops, top, rest, tf⟩ := h.g
    obtain ⟨c', hc, hat, hi⟩ := tf.instr h.pe
    obtain ⟨τ', ht⟩ := hi.i5 (by rw [← hat]; exact hop)
    have hrest : rest = [] := by
      rw [h2, tf.pos] at h5
      exact List.eq_nil_of_length_eq_zero (by omega)
    subst hrest
    have hbe : below = [] := tf.bl
    subst hbe
    have hu1 : u1 = u := by
      obtain ⟨fr0, g1, g2⟩ := h.bot
      rw [tf.fr] at g1
      simp at g1; subst g1
      have : k = o.a.toNat := by have := tf.f; omega
      subst this
      have := tf.fu; rw [hu] at this; cases this; rfl
    subst hu1
    have hot := tf.ot
    rw [ht] at hot
    obtain ⟨o1, vals, rfl, b1, b2⟩ := List.map_eq_append_iff.1 hot
    have hvl : vals.length = u1.results.length := by rw [← b2]; simp
    have hll : locs.length = u1.params.length + u1.locals.length := by have := congrArg List.length tf.lt; simpa using this
    have hst : m1.leave.i.st = vals := by
      show m1.i.st.take m1.i.top.base ++ m1.i.st.drop (m1.i.st.length - m1.i.top.res.length) = _
      have hst1 : m.i.st = (locs ++ o1) ++ vals := by rw [tf.st]; simp
      rw [h1, top_of_fr h2, tf.topv, tf.base, tf.res, hst1]
      have e1 : ((locs ++ o1) ++ vals).length - u1.results.length = (locs ++ o1).length := by simp only [List.length_append]; omega
      rw [e1, List.drop_left]; rfl
    refine ⟨by rw [hst, b2], by rw [tf.st]; simp only [List.length_append, List.length_nil]; omega, fun hb => ?_⟩
    have hf := (h.foot hb).2.2.2.2
    rw [sig_some h0 hu, tf.st] at hf
    simp only [List.length_append, List.length_nil] at hf
    exact List.eq_nil_of_length_eq_zero (by omega)
  unfold VM.step at hs
  split at hs
  · exact key m.fetch rfl rfl hs
  · split at hs
    · exact key m.fetch.pay rfl rfl hs
    · simp at hs
theorem Gd.trap (hT : TOk P mem) (hO : OpOk o) (h : Gd P mem o args m) {e : Int} (he : e ≠ 0) (hs : m.step o.b = (m', some e)) : (11 ≤ e ∧ e < 18) ∧ (o.b ≤ 0 → e = 17) := by
  have hpre := (h.pre hT hO).1
  unfold VM.step at hs
  split at hs
  · rename_i hfree
    have hp2 : PreOp m.fetch m.at := (hpre.move (m1 := m.fetch) rfl rfl rfl rfl hpre.used0).op
    refine ⟨exec_trap hp2 hs he, fun hb => ?_⟩
    exfalso
    rcases hfree with h4 | h5
    · rw [exec_x4 h4] at hs; simp [VM.x4] at hs
    · rw [exec_x5 (.inl h5)] at hs
      unfold VM.x5 at hs
      simp only [Prod.mk.injEq] at hs
      have h2 := hs.2
      split at h2
      · simp at h2; omega
      · cases h2
  · split at hs
    · rename_i hlt
      have hp2 : PreOp m.fetch.pay m.at := (hpre.move (m1 := m.fetch.pay) rfl rfl rfl rfl (show 0 ≤ m.i.used + 1 by have := hpre.used0; omega)).op
      exact ⟨exec_trap hp2 hs he, fun hb => by have := h.u0; have := h.foot hb; omega⟩
    · simp only [Prod.mk.injEq, Option.some.injEq] at hs
      have := hs.2
      exact ⟨by omega, fun _ => by omega⟩
theorem Gd.fin (hT : TOk P mem) (hO : OpOk o) {r : CallR} (hc : CallP (Gd P mem o args) o.b P 0 mem (host0 o) o.a args r) : r.P = P ∧ TOk P r.mem ∧ SoundP o (ansOf r) (showMem mem) (showMem r.mem) r.steps (P.sig o.a).2.1 ∧
    (owed P o.a args ≠ 0 → r.high = 0 ∧ r.e = owed P o.a args) ∧ (owed P o.a args = 0 → ¬ (r.e = 1 ∨ r.e = 8 ∨ r.e = 7) ∧ ((P.sig o.a).1.length + (P.sig o.a).2.2.1.length : Int) + (if r.e = 0 then ((P.sig o.a).2.1.length : Int) else 0) ≤ r.high ∧ r.high ≤ 124) := by
  rcases hc with ⟨h0, rfl⟩ | ⟨h0, m, m', hg, hs, rfl⟩ | ⟨h0, m, m', e, hg, hs, he, rfl⟩
  · have hcs := owed_casesH (P := P) (args := args) o.a
    have hsx : (ansOf ⟨[], 0, owed P o.a args, 0, P, 0, mem, host0 o⟩).s = [124] := by
      unfold ansOf; dsimp only; rw [trace0]; rfl
    refine ⟨rfl, hT, ⟨fun _ => ⟨rfl, rfl, hsx, rfl, rfl⟩, fun hn => ?_, ⟨by show (0 : Int) ≤ 0; omega, .inr (by show (0 : Int) ≤ 0; omega)⟩, fun hn => ?_, fun hn => ?_, fun hz => absurd hz h0⟩, fun _ => ⟨rfl, rfl⟩, fun h => absurd h h0⟩
    · exact absurd (show owed P o.a args = 1 ∨ owed P o.a args = 8 ∨ owed P o.a args = 7 by omega) hn
    · exact absurd (show owed P o.a args = 1 ∨ owed P o.a args = 8 ∨ owed P o.a args = 7 by omega) hn
    · exact absurd (show owed P o.a args = 1 ∨ owed P o.a args = 8 ∨ owed P o.a args = 7 by omega) hn
  · obtain ⟨u, a0, a1, a2, a3, a4, a5⟩ := owed_parts hT.p h0
    obtain ⟨c1, c2, c3, c4, c5⟩ := hg.behind hT hs
    obtain ⟨d1, d2, d3⟩ := hg.last hT a0 a2 hs
    rw [a3]
    have hrl : m'.i.st.length = u.results.length := by rw [← d1]; simp
    refine ⟨c1, ⟨hT.p, c4⟩, ⟨fun hn => ?_, fun _ => .inl rfl, c2, fun _ hb => ?_, fun _ hn => absurd rfl hn, fun _ => ?_⟩, fun h => absurd h0 h, fun _ => ⟨by show ¬ ((0 : Int) = 1 ∨ (0 : Int) = 8 ∨ (0 : Int) = 7); omega, ?_⟩⟩
    · exact absurd hn (by show ¬ ((0 : Int) = 1 ∨ (0 : Int) = 8 ∨ (0 : Int) = 7); omega)
    · obtain ⟨f1, f2, f3⟩ := c5 hb
      have hr0 := d3 hb
      have hs0 : m'.i.st = [] := List.eq_nil_of_length_eq_zero (by rw [hrl, hr0]; rfl)
      refine ⟨f3, ?_, by show showMem m'.mem = _; rw [f1], .inl rfl⟩
      unfold ansOf; dsimp only; rw [hs0, f2, trace0]; rfl
    · refine ⟨by show (((m'.i.st.map W.val).length : Nat) : Int) = _; rw [List.length_map, hrl], ?_⟩
      cases hr : u.results with
      | nil => exact .inl rfl
      | cons t l =>
        right
        rw [hr] at d1
        cases hst : m'.i.st with
        | nil => rw [hst] at d1; cases d1
        | cons y st' =>
          rw [hst] at d1
          simp only [List.map_cons, List.cons.injEq] at d1
          have hx : ∃ rr, (ansOf ⟨m'.i.st.map W.val, m'.i.used, 0, m'.i.high, m'.P, m'.steps, m'.mem, m'.host⟩).s = y.t :: rr := by
            unfold ansOf valsS
            dsimp only
            rw [hst]
            exact ⟨_, rfl⟩
          obtain ⟨rr, hrr⟩ := hx
          exact ⟨t, rr, l, by rw [← hst, hrr, d1.1], rfl⟩
    · rw [if_pos rfl]
      have := c3.1
      dsimp only
      exact ⟨by omega, c3.2⟩
  · obtain ⟨u, a0, a1, a2, a3, a4, a5⟩ := owed_parts hT.p h0
    obtain ⟨c1, c2, c3, c4, c5⟩ := hg.behind hT hs
    obtain ⟨e1, e2⟩ := hg.trap hT hO he hs
    have hlow := hg.low a0 a2
    rw [a3]
    have hne : ¬ (e = 1 ∨ e = 8 ∨ e = 7) := by omega
    refine ⟨c1, ⟨hT.p, c4⟩, ⟨fun hn => absurd hn hne, fun _ => .inr e1, c2, fun _ hb => ?_, fun _ _ => rfl, fun hz => absurd hz he⟩, fun h => absurd h0 h, fun _ => ⟨hne, ?_⟩⟩
    · obtain ⟨f1, f2, f3⟩ := c5 hb
      refine ⟨f3, ?_, by show showMem m'.mem = _; rw [f1], .inr (e2 hb)⟩
      unfold ansOf; dsimp only; rw [f2, trace0]; rfl
    · dsimp only
      rw [if_neg he]
      have := c3.1
      exact ⟨by omega, c3.2⟩
end Go.Sl
