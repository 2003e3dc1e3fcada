/- The good states of a call: kept, and what they give. -/
import Derived.Test.Qxb6500572aGreatDoorPSafeF
namespace Go.Sl
open Go Go.Wl Go.Proofs
set_option linter.unusedVariables false
theorem below_len {P : Prog} (hPO : ProgOk P) : ∀ {frs : List Fr} {st : List W} {r : List UInt8}, Below P frs st r → st.length ≤ 31 * frs.length
  | [], st, r, h => by have : st = [] := h; subst this; simp
  | fr :: rest, st, r, h => by
    obtain ⟨k, pc, u, T, τ, below, locs, ops, g1, g2, g3, g4, g5, g6, g7, g8, g9, g10, g11, g12, g13⟩ := h
    have ih := below_len hPO g13
    obtain ⟨c, _, _, hl, _⟩ := g5.ok pc _ g6
    obtain ⟨b1, b2, b3, _⟩ := hPO.f u (List.mem_of_getElem? g4)
    have e1 : locs.length = u.params.length + u.locals.length := by have := congrArg List.length g8; simpa using this
    have e2 : ops.length = τ.length := by have := congrArg List.length g9; simpa using this
    rw [g7]
    simp only [List.length_append, List.length_cons] at hl ⊢
    omega
theorem below_bot {P : Prog} : ∀ {frs : List Fr} {st : List W} {r : List UInt8}, Below P frs st r → ∀ {fr0 : Fr}, frs.getLast? = some fr0 → ∃ (k : Nat) (u : Fun), fr0.f = k ∧ P.funs[k]? = some u ∧ u.params.length + u.locals.length ≤ st.length
  | [], _, _, _, _, hl => by simp at hl
  | [fr], st, r, h, fr0, hl => by
    obtain ⟨k, pc, u, T, τ, below, locs, ops, g1, g2, g3, g4, g5, g6, g7, g8, g9, g10, g11, g12, g13⟩ := h
    simp at hl; subst hl
    have e1 : locs.length = u.params.length + u.locals.length := by have := congrArg List.length g8; simpa using this
    exact ⟨k, u, g1, g4, by rw [g7]; simp only [List.length_append]; omega⟩
  | fr :: fr' :: rest, st, r, h, fr0, hl => by
    obtain ⟨k, pc, u, T, τ, below, locs, ops, g1, g2, g3, g4, g5, g6, g7, g8, g9, g10, g11, g12, g13⟩ := h
    obtain ⟨k', u', a1, a2, a3⟩ := below_bot g13 (fr0 := fr0) (by rw [← hl]; simp [List.getLast?_cons_cons])
    exact ⟨k', u', a1, a2, by rw [g7]; simp only [List.length_append]; omega⟩
structure TOk (P : Prog) (mem : Mem) : Prop where
  p : ProgOk P
  m : MOk mem
structure Gd (P : Prog) (mem : Mem) (o : Op1) (args : List Val) (m : VM) : Prop where
  pe : m.P = P
  g : GoodF P m
  ok : ∀ y, y ∈ m.i.st → y.ok
  f4 : m.i.fr.length ≤ 4
  u0 : 0 ≤ m.i.used ∧ (m.i.used ≤ o.b ∨ m.i.used = 0)
  hi : 0 ≤ m.i.high ∧ m.i.high ≤ 124
  bot : ∃ fr, m.i.fr.head? = some fr ∧ fr.f = o.a
  mm : MOk m.mem
  host : HOk o m.host
  foot : o.b ≤ 0 → m.mem = mem ∧ m.host = host0 o ∧ m.i.used = 0 ∧ m.i.fr.length = 1 ∧ m.i.st.length = (P.sig o.a).1.length + (P.sig o.a).2.2.1.length
def mu (o : Op1) (m : VM) : Nat := (o.b - m.i.used).toNat * 1000000 + m.i.fr.length * 2000 + (1000 - m.i.top.pc).toNat
variable {P : Prog} {mem : Mem} {o : Op1} {args : List Val} {m m' : VM}
theorem Gd.stl (h : Gd P mem o args m) (hT : TOk P mem) : m.i.st.length ≤ 124 := by
  obtain ⟨k, pc, u, T, τ, below, locs, ops, top, rest, tf⟩ := h.g
  have hb : Below P (top :: rest) m.i.st [] := ⟨k, pc, u, T, τ, below, locs, ops, tf.f, tf.pcv, tf.dn, tf.fu, tf.fl, by rw [List.append_nil]; exact tf.tp, tf.st, tf.lt, tf.ot, tf.base, tf.floor, tf.res, tf.bl⟩
  have := below_len hT.p hb
  have h4 := h.f4
  rw [tf.pos] at h4
  simp only [List.length_cons] at this
  omega
theorem Gd.pcs (h : Gd P mem o args m) (hT : TOk P mem) : 0 ≤ m.i.top.pc ∧ m.i.top.pc < 1000 := by
  obtain ⟨k, pc, u, T, τ, below, locs, ops, top, rest, tf⟩ := h.g
  obtain ⟨c, hc, _⟩ := tf.fl.ok pc τ tf.tp
  have h1 := (List.getElem?_eq_some_iff.1 hc).1
  have h2 := (hT.p.b.f u (List.mem_of_getElem? tf.fu)).2.2.2.1
  rw [tf.topv, tf.pcv]; omega
theorem Gd.pre (h : Gd P mem o args m) (hT : TOk P mem) (hO : OpOk o) : Pre m ∧ m.host.kind = (host0 o).kind := by
  have hst := h.stl hT
  have hpc := h.pcs hT
  have hho := h.host
  refine ⟨?_, hho.kind⟩
  obtain ⟨k, pc, u, T, τ, below, locs, ops, top, rest, tf⟩ := h.g
  obtain ⟨c, hc, hat, hi⟩ := tf.instr h.pe
  refine ⟨by rw [tf.pos]; omega, h.f4, by omega, h.u0.1, hpc.1, by omega, h.ok, fun _ => ?_, by rw [hat]; exact pre_op tf h.pe hT.p hi⟩
  have := hho.tr; have := hho.k; have := hho.kl
  exact ⟨by omega, by rw [hho.s]; exact hO.t, by omega, by omega, hho.kn⟩
theorem goodF_move {m1 : VM} (h : GoodF P m) (h1 : m1.i.fr = m.i.fr) (h2 : m1.i.st = m.i.st) : GoodF P m1 := by
  obtain ⟨k, pc, u, T, τ, below, locs, ops, top, rest, tf⟩ := h
  exact ⟨k, pc, u, T, τ, below, locs, ops, top, rest, by rw [h1]; exact tf.fr, tf.f, tf.pcv, tf.dn, tf.fu, tf.fl, tf.tp, by rw [h2]; exact tf.st, tf.lt, tf.ot, tf.base, tf.floor, tf.res, tf.bl⟩
theorem setTop_head {i : Inst} {f : Fr} {fr0 : Fr} (h : i.fr.head? = some fr0) (hf : f.f = i.top.f) : ∃ fr, (i.setTop f).fr.head? = some fr ∧ fr.f = fr0.f := by
  unfold Inst.setTop
  cases hc : i.fr with
  | nil => rw [hc] at h; cases h
  | cons a l =>
    rw [hc] at h
    simp at h; subst h
    cases l with
    | nil =>
      refine ⟨f, by simp, ?_⟩
      rw [hf]; unfold Inst.top; rw [hc]; rfl
    | cons b l => exact ⟨a, by simp, rfl⟩
theorem fr_head {i j : Inst} (hr : FrRel i j) (h0 : j.fr ≠ []) {a : Int} (h : ∃ fr, i.fr.head? = some fr ∧ fr.f = a) : ∃ fr, j.fr.head? = some fr ∧ fr.f = a := by
  obtain ⟨fr0, g1, g2⟩ := h
  rcases hr with ⟨f', e, hf⟩ | e | e | ⟨_, f', g, e, hf⟩
  · obtain ⟨fr, a1, a2⟩ := setTop_head g1 hf
    exact ⟨fr, by rw [e]; exact a1, a2.trans g2⟩
  · exact ⟨fr0, by rw [e]; exact g1, g2⟩
  · refine ⟨fr0, ?_, g2⟩
    rw [e]
    rw [e] at h0
    cases hc : i.fr with
    | nil => rw [hc] at g1; cases g1
    | cons a l =>
      rw [hc] at g1 h0
      cases l with
      | nil => simp at h0
      | cons b l => simpa using g1
  · obtain ⟨fr, a1, a2⟩ := setTop_head g1 hf
    refine ⟨fr, ?_, a2.trans g2⟩
    rw [e, List.head?_append, a1]; rfl
theorem fr_len {i j : Inst} (hr : FrRel i j) (h : i.fr.length ≤ 4) : j.fr.length ≤ 4 := by
  rcases hr with ⟨f', e, hf⟩ | e | e | ⟨hl, f', g, e, hf⟩
  · rw [e]; unfold Inst.setTop; simpa using h
  · rw [e]; exact h
  · rw [e, List.length_take]; omega
  · rw [e, List.length_append]; unfold Inst.setTop; simp; omega
theorem Gd.exec {m1 : VM} {c : Flat} (hT : TOk P mem) (hO : OpOk o) (h : Gd P mem o args m1) (h1 : m1.at = c) (hs : m1.exec c = (m', none)) (hfoot : o.b ≤ 0 → c.op = 4 ∨ c.op = 5) : Gd P mem o args m' := by
  have e : m' = (m1.exec c).1 := by rw [hs]
  have hsame := exec_same m1 c
  rw [← e] at hsame
  obtain ⟨k, pc, u, T, τ, below, locs, ops, top, rest, tf⟩ := h.g
  obtain ⟨c', hc, hat, hi⟩ := tf.instr h.pe
  rw [h1] at hat; subst hat
  have hg : GoodF P m' := exec_good tf h.pe hT.p hi hs
  have hne : m'.i.fr ≠ [] := by
    obtain ⟨_, _, _, _, _, _, _, _, top', rest', tf'⟩ := hg
    rw [tf'.fr]; simp
  have hok : ∀ y, y ∈ m'.i.st → y.ok := by
    rw [e]
    refine exec_ok h.ok fun h18 => ?_
    obtain ⟨_, _, _, _, _, _, h4⟩ := hi.ip (by omega)
    exact h4 h18
  refine ⟨hsame.P.trans h.pe, hg, hok, fr_len hsame.fr h.f4, by rw [hsame.used]; exact h.u0, by rw [hsame.high]; exact h.hi, fr_head hsame.fr hne h.bot, by rw [e]; exact exec_mem h.mm, by rw [e]; exact exec_hostok h.host (by have := h.stl hT; omega), fun hb => ?_⟩
  have hf := exec_free (m := m1) (hfoot hb)
  obtain ⟨f1, f2, f3, f4, f5⟩ := h.foot hb
  have h45 : c.op = 4 := by
    rcases hfoot hb with h4 | h5
    · exact h4
    · exfalso
      rw [exec_x5 (.inl h5)] at hs
      unfold VM.x5 at hs
      rw [f4] at hs
      simp at hs
  have e4 : m' = m1.setPc c.imm := by rw [exec_x4 h45] at hs; cases hs; rfl
  refine ⟨by rw [e, hf.1]; exact f1, by rw [e, hf.2]; exact f2, by rw [hsame.used]; exact f3, ?_, by rw [e4]; exact f5⟩
  rw [e4]
  show (m1.i.fr.set _ _).length = 1
  rw [List.length_set]; exact f4
theorem Gd.fetch (hT : TOk P mem) (h : Gd P mem o args m) : Gd P mem o args m.fetch := by
  have hl := h.stl hT
  have hh := h.hi
  exact ⟨h.pe, goodF_move h.g rfl rfl, h.ok, h.f4, h.u0, ⟨by show 0 ≤ max _ _; omega, by show max _ _ ≤ _; omega⟩, h.bot, h.mm, h.host, h.foot⟩
theorem Gd.pay (h : Gd P mem o args m) (hu : m.i.used < o.b) : Gd P mem o args m.pay := by
  have := h.u0
  exact ⟨h.pe, goodF_move h.g rfl rfl, h.ok, h.f4, ⟨by show 0 ≤ m.i.used + 1; omega, .inl (by show m.i.used + 1 ≤ o.b; omega)⟩, h.hi, h.bot, h.mm, h.host, fun hb => by omega⟩
theorem Gd.step (hT : TOk P mem) (hO : OpOk o) (h : Gd P mem o args m) (hs : m.step o.b = (m', none)) : Gd P mem o args m' ∧ mu o m' < mu o m := by
  have hpc := h.pcs hT
  unfold VM.step at hs
  split at hs
  · rename_i hfree
    have hg := (h.fetch hT).exec hT hO (c := m.at) rfl hs (fun _ => hfree)
    refine ⟨hg, ?_⟩
    have hpc' := hg.pcs hT
    rcases hfree with h4 | h5
    · obtain ⟨k, pc, u, T, τ, below, locs, ops, top, rest, tf⟩ := h.g
      obtain ⟨c', hc, hat, hi⟩ := tf.instr h.pe
      have hlt := (hi.i4 (by rw [← hat]; exact h4)).1
      rw [exec_x4 h4] at hs
      cases hs
      have hpos : 0 < m.i.fr.length := by rw [tf.pos]; omega
      have e1 : (m.fetch.setPc m.at.imm).i.top = { m.i.top with pc := m.at.imm } := setTop_top (i := m.fetch.i) hpos
      have e2 : (m.fetch.setPc m.at.imm).i.fr.length = m.i.fr.length := List.length_set ..
      rw [tf.topv, tf.pcv] at hpc
      rw [← hat] at hlt
      unfold mu
      rw [e1, e2, tf.topv, tf.pcv]
      show (o.b - m.i.used).toNat * 1000000 + _ + (1000 - m.at.imm).toNat < _
      omega
    · rw [exec_x5 (.inl h5)] at hs
      unfold VM.x5 at hs
      simp only [Prod.mk.injEq] at hs
      obtain ⟨rfl, h2⟩ := hs
      have e2 : m.fetch.leave.i.fr.length = m.i.fr.length - 1 := by
        show (m.i.fr.take (m.i.fr.length - 1)).length = _
        rw [List.length_take]; omega
      have hpos : 0 < m.i.fr.length := by
        obtain ⟨k, pc, u, T, τ, below, locs, ops, top, rest, tf⟩ := h.g
        rw [tf.pos]; omega
      have e3 : m.fetch.leave.i.used = m.i.used := rfl
      unfold mu
      rw [e2, e3]
      omega
  · rename_i hfree
    split at hs
    · rename_i hu
      have hg := ((h.fetch hT).pay hu).exec hT hO (c := m.at) rfl hs (fun hb => by have := h.foot hb; have := h.u0; omega)
      refine ⟨hg, ?_⟩
      have hpc' := hg.pcs hT
      have hf4 := hg.f4
      have hsame := exec_same m.fetch.pay m.at
      have e : m' = (m.fetch.pay.exec m.at).1 := by rw [hs]
      rw [← e] at hsame
      have hus : m'.i.used = m.i.used + 1 := hsame.used
      unfold mu
      rw [hus]
      have : (o.b - (m.i.used + 1)).toNat + 1 = (o.b - m.i.used).toNat := by omega
      omega
    · simp at hs
end Go.Sl
