/- Plain: jumps, calls, returns, unwinding: pieces. -/
import Derived.Test.Qxb6500573aGreatDoorCG
namespace Go.Wl
open Go Go.Sl Go.Proofs
set_option linter.unusedVariables false
def wF (f : Fr) : Nat := (65537 - f.pc).toNat
/-- What falls with every step. -/
def mu (c : Cx) (m : VM) : Nat := m.vs.fuel.toNat * 1000000 + (((c.fs ++ [c.f]).map wF).sum)
/-- The thread is about to take a step. -/
def Run (c : Cx) (m : VM) : Prop := ∃ pc : Nat, c.f.pc = (pc : Nat) ∧ (pc : Int) < c.p.ncode ∧ RunT c m (c.PT c.cl.p.toNat pc)
/-- No thread runs. -/
structure MW (g : Pg) (PT : Nat → Nat → Ty) (m : VM) : Prop where
  mi : MI g PT m
  all : ∀ (u : Nat) (t : Th), m.vs.threads[u]? = some t → ThW g PT m u t
section
variable {g : Pg} {PT : Nat → Nat → Ty} {clos : List Cl} {stack : List V}
theorem Chain.sum {fs : List Fr} {e : Nat} (hok : PgOk g PT) (h : Chain g PT clos stack fs e) : (fs.map wF).sum ≤ fs.length * 65537 := by
  induction h with
  | nil => simp
  | @snoc fs f e cl p B pc st h hc hp hb hr hpc hst he hz ho hel ih =>
    rw [List.map_append, List.sum_append, List.length_append]
    have : wF f ≤ 65537 := by unfold wF; omega
    simp only [List.map_cons, List.map_nil, List.sum_cons, List.sum_nil, List.length_cons, List.length_nil]
    omega
/-- The frames below one of them. -/
theorem Chain.at {fs : List Fr} {e : Nat} (h : Chain g PT clos stack fs e) : ∀ {k : Nat} {f : Fr}, fs[k]? = some f → ∃ B : Nat, Chain g PT clos stack (fs.take k) f.ret.toNat ∧ f.base = (B : Nat) ∧ (0 ≤ f.ret ∧ f.ret ≤ B) ∧ B ≤ e := by
  induction h with
  | nil => intro k f hk; simp at hk
  | @snoc fs f e cl p B pc st h hc hp hb hr hpc hst he hz ho hel ih =>
    intro k f' hk
    by_cases hkl : k < fs.length
    · rw [List.getElem?_append_left hkl] at hk
      obtain ⟨B', h1, h2, h3, h4⟩ := ih hk
      exact ⟨B', by rw [List.take_append_of_le_length (by omega)]; exact h1, h2, h3, by omega⟩
    · have hkl2 := (List.getElem?_eq_some_iff.1 hk).1
      rw [List.length_append, List.length_singleton] at hkl2
      have : k = fs.length := by omega
      subst this
      rw [List.getElem?_append_right (Nat.le_refl _), Nat.sub_self] at hk
      injection hk with hk
      subst hk
      exact ⟨B, by rw [List.take_left']; exact h; rfl, hb, ⟨hr.1, hr.2.1⟩, by omega⟩
theorem Chain.under {fs : List Fr} {e : Nat} (hok : PgOk g PT) (h : Chain g PT clos stack fs e) : ∀ {k : Nat} {f : Fr} {q : Int}, fs[k]? = some f → ZeroAt g PT clos fs q → q < f.base → ZeroAt g PT clos (fs.take k) q := by
  induction h with
  | nil => intro k f q hk; simp at hk
  | @snoc fs f e cl p B pc st h hc hp hb hr hpc hst he hz ho hel ih =>
    intro k f' q hk hq hlt
    have htop : ∀ {b : Int}, b ≤ B → q < b → ZeroAt g PT clos fs q := fun {b} hbB hqb => by
      obtain ⟨f2, hf2, cl2, p2, B2, s, h1, h2, h3, h4, h5, h6⟩ := hq
      rcases List.mem_append.1 hf2 with hf2 | hf2
      · exact ⟨f2, hf2, cl2, p2, B2, s, h1, h2, h3, h4, h5, h6⟩
      · rw [List.mem_singleton] at hf2
        subst hf2
        omega
    by_cases hkl : k < fs.length
    · rw [List.getElem?_append_left hkl] at hk
      obtain ⟨B', _, h2, _, h4⟩ := h.at hk
      rw [List.take_append_of_le_length (by omega)]
      exact ih hk (htop (b := f'.base) (by omega) hlt) hlt
    · have hkl2 := (List.getElem?_eq_some_iff.1 hk).1
      rw [List.length_append, List.length_singleton] at hkl2
      have : k = fs.length := by omega
      subst this
      rw [List.getElem?_append_right (Nat.le_refl _), Nat.sub_self] at hk
      injection hk with hk
      subst hk
      rw [List.take_left' rfl]
      exact htop (b := f.base) (by omega) hlt
end
section
variable {c : Cx} {m : VM} {pc : Nat}
theorem burn_ok {ty : Ty} (h : RunT c m ty) : (m.vs.fuel = 0 ∧ burnM m = some (.trp 9 m)) ∨ (0 < m.vs.fuel ∧ burnM m = some (.ok () { m with vs := { m.vs with fuel := m.vs.fuel - 1 } }) ∧ RunT c { m with vs := { m.vs with fuel := m.vs.fuel - 1 } } ty) := by
  have hf := h.mi.fu
  unfold burnM
  by_cases h0 : m.vs.fuel = 0
  · left; exact ⟨h0, by rw [if_pos h0]⟩
  · right
    refine ⟨by omega, by rw [if_neg h0, if_pos hf], h.fuel (by omega)⟩
theorem mu_pc (c : Cx) (x : Int) (m : VM) : mu (c.pc x) m = m.vs.fuel.toNat * 1000000 + (c.fs.map wF).sum + (65537 - x).toNat := by
  unfold mu Cx.pc wF
  simp
  omega
theorem mu_c (c : Cx) (m : VM) : mu c m = m.vs.fuel.toNat * 1000000 + (c.fs.map wF).sum + (65537 - c.f.pc).toNat := by
  unfold mu wF
  simp
  omega
/-- On to another place. -/
theorem RunT.goto {ty : Ty} (h : RunT c m ty) {x : Int} (hj : jmpT c.p (c.PT c.cl.p.toNat) x ty) : ∃ m', pcM c.th c.fs.length x m = some m' ∧ Run (c.pc x) m' ∧ Eqs m m' := by
  obtain ⟨m', h1, h2, h3⟩ := h.setPc x
  have hp := h.prOk
  obtain ⟨n, rfl⟩ : ∃ n : Nat, x = n := ⟨x.toNat, by have := hj.1; omega⟩
  refine ⟨m', h1, ⟨n, rfl, hj.1.2, ?_⟩, h3⟩
  have hle := hj.2
  rw [Int.toNat_natCast] at hle
  exact h2.weaken hle (hp.st n hj.1.2).2
def JOk (c : Cx) (m : VM) (x : Int) (o : Option (Out Unit)) : Prop := o = some (.trp 9 m) ∨ ∃ m', o = some (.ok () m') ∧ Run (c.pc x) m' ∧ mu (c.pc x) m' < mu c m
theorem jump_ok {ty : Ty} (h : RunT c m ty) (hpc : c.f.pc = (pc : Nat) ∧ (pc : Int) < c.p.ncode) {x : Int} (hj : jmpT c.p (c.PT c.cl.p.toNat) x ty) : JOk c m x (jumpV c.th c.fs.length x m) := by
  have hcd := h.prOk.cd
  have hf := h.mi.fu
  unfold jumpV
  rw [h.frame, bind1_some]
  by_cases hx : x ≤ c.f.pc
  · rw [if_pos hx]
    rcases burn_ok h with ⟨h0, hb⟩ | ⟨h0, hb, h1⟩
    · rw [hb]; exact .inl rfl
    · rw [hb]
      show JOk c m x (bind1 (pcM c.th c.fs.length x _) _)
      obtain ⟨m', g1, g2, g3⟩ := h1.goto hj
      rw [g1, bind1_some]
      refine .inr ⟨m', rfl, g2, ?_⟩
      rw [mu_pc, mu_c, g3.fuel]
      have := hj.1
      dsimp only
      omega
  · rw [if_neg hx]
    obtain ⟨m', g1, g2, g3⟩ := h.goto hj
    rw [g1, bind1_some]
    refine .inr ⟨m', rfl, g2, ?_⟩
    rw [mu_pc, mu_c, g3.fuel]
    have := hj.1
    omega
/-- The next place. -/
theorem RunT.nextR {ty : Ty} (h : RunT c m ty) (hpc : c.f.pc = (pc : Nat) ∧ (pc : Int) < c.p.ncode) (hn : fall c.p (c.PT c.cl.p.toNat) pc ty) : ∃ m', nextPc c.th c.fs.length m = some m' ∧ Run (c.pc ((pc : Int) + 1)) m' ∧ mu (c.pc ((pc : Int) + 1)) m' < mu c m := by
  have hp := h.prOk
  have hcd := hp.cd
  obtain ⟨m', g1, g2, g3⟩ := h.next hpc.1 (by omega)
  refine ⟨m', g1, ⟨pc + 1, by unfold Cx.pc; simp, by have := hn.1; unfold Cx.pc; dsimp only; omega, g2.weaken hn.2 (hp.st (pc + 1) (by have := hn.1; omega)).2⟩, ?_⟩
  rw [mu_pc, mu_c, g3.fuel, hpc.1]
  omega
/-- The stack is cut down to the operands st; two values are put on it, or none: the frame waits. -/
theorem RunT.cutTop {st l : List Bool} {z : List Nat} (h : RunT c m ⟨st ++ l, z⟩) {t : Th} (ht : m.vs.threads[c.th]? = some t) : t.stack.length = c.O + st.length + l.length ∧ NumS (t.stack.take (c.O + st.length)) c.B z ∧ NumO (t.stack.take (c.O + st.length)) c.O st ∧ (t.stack.take (c.O + st.length)).length = c.O + st.length ∧ (t.stack.take (c.O + st.length)).take c.B = t.stack.take c.B ∧ ∀ v, v ∈ t.stack.take (c.O + st.length) → VVm m v := by
  obtain ⟨t', ht', hR⟩ := h.run
  rw [ht] at ht'
  injection ht' with ht'
  subst ht'
  have hsl := hR.sl
  have hzl := hR.zl
  rw [List.length_append] at hsl
  have hO : c.O = c.B + c.p.nslots.toNat := rfl
  refine ⟨by omega, fun s hs => ?_, fun j hj => ?_, by rw [List.length_take]; omega, by rw [List.take_take, Nat.min_eq_left (by omega)], fun v hv => hR.vv v (List.mem_of_mem_take hv)⟩
  · have hsl2 := (List.getElem?_eq_some_iff.1 hs).1
    dsimp only at hzl
    rw [List.getElem?_take_of_lt (by omega)]
    exact hR.ns s hs
  · have hjl := (List.getElem?_eq_some_iff.1 hj).1
    rw [List.getElem?_take_of_lt (by omega)]
    exact hR.no j (by rw [List.getElem?_append_left hjl]; exact hj)
theorem RunT.fin {st l : List Bool} {z : List Nat} (h : RunT c m ⟨st ++ l, z⟩) (hs : st.length ≤ 900) {p : V × V} (h1 : VVm m p.1) (h2 : VVm m p.2) : ∃ m', finM c.th (c.O + st.length) p m = some (.ok ev0 m') ∧ RunT c m' ⟨st ++ [false, false], z⟩ ∧ Eqs m m' := by
  obtain ⟨t, ht, hR⟩ := h.run
  obtain ⟨a1, a2, a3, a4, a5, a6⟩ := h.cutTop ht
  have hsm := h.small ht
  have hE := Eqs.set m c.th { t with stack := t.stack.take (c.O + st.length) }
  have hE2 := Eqs.set (setTh m c.th { t with stack := t.stack.take (c.O + st.length) }) c.th { ({ t with stack := t.stack.take (c.O + st.length) } : Th) with stack := t.stack.take (c.O + st.length) ++ [p.1, p.2] }
  have h3 : RunT c (setTh m c.th { t with stack := t.stack.take (c.O + st.length) }) ⟨st, z⟩ := h.stk ht a4 a5.symm a6 a2 a3 (fun s hs => hs) (by dsimp only; omega) hR.zl
  have hst := setTh_at (t' := { t with stack := t.stack.take (c.O + st.length) }) ht
  refine ⟨_, ?_, ?_, hE.trans hE2⟩
  · unfold finM getT
    rw [ht, bind1_some, if_pos (by omega)]
    unfold pushM getT
    rw [hst, bind1_some]
    show bind1 (if (t.stack.take (c.O + st.length)).length + [p.1, p.2].length ≤ 1000000 then _ else none) _ = _
    rw [if_pos (by rw [a4]; simp; omega), bind1_some]
  · refine h3.stk hst (by rw [List.length_append, a4]; simp; omega) ?_ (fun v hv => ?_) (fun s hs => ?_) (fun j hj => ?_) (fun s hs => hs) (by simp; omega) hR.zl
    · dsimp only
      rw [List.take_append_of_le_length (by rw [a4]; unfold Cx.O; omega)]
    · rcases List.mem_append.1 hv with hv | hv
      · exact hE.vv (a6 v hv)
      · simp only [List.mem_cons, List.not_mem_nil, or_false] at hv
        rcases hv with rfl | rfl
        · exact hE.vv h1
        · exact hE.vv h2
    · obtain ⟨v, q1, q2⟩ := a2 s hs
      exact ⟨v, by rw [List.getElem?_append_left (List.getElem?_eq_some_iff.1 q1).1]; exact q1, q2⟩
    · by_cases hjl : j < st.length
      · dsimp only at hj
        rw [List.getElem?_append_left hjl] at hj
        obtain ⟨v, q1, q2⟩ := a3 j hj
        exact ⟨v, by rw [List.getElem?_append_left (List.getElem?_eq_some_iff.1 q1).1]; exact q1, q2⟩
      · exfalso
        dsimp only at hj
        rw [List.getElem?_append_right (by omega)] at hj
        have : j - st.length = 0 ∨ j - st.length = 1 ∨ 2 ≤ j - st.length := by omega
        rcases this with q | q | q
        · rw [q] at hj; cases hj
        · rw [q] at hj; cases hj
        · rw [List.getElem?_eq_none (by simpa using q)] at hj; cases hj
/-- What the waiting frame's type is. -/
theorem two_flags {st : List Bool} {t : List Bool} (h : stle (st ++ [false, false]) t) : ∃ st', t = st' ++ [false, false] ∧ st'.length = st.length ∧ ∀ j : Nat, st'[j]? = some true → st[j]? = some true := by
  have hl := h.1
  simp only [List.length_append, List.length_cons, List.length_nil] at hl
  have h1 : t[st.length]? = some false := by
    have hi : st.length < t.length := by omega
    rw [List.getElem?_eq_getElem hi]
    cases hq : t[st.length] with
    | false => rfl
    | true =>
      have := h.2 st.length (by rw [List.getElem?_eq_getElem hi, hq])
      rw [List.getElem?_append_right (Nat.le_refl _), Nat.sub_self] at this
      cases this
  have h2 : t[st.length + 1]? = some false := by
    have hi : st.length + 1 < t.length := by omega
    rw [List.getElem?_eq_getElem hi]
    cases hq : t[st.length + 1] with
    | false => rfl
    | true =>
      have := h.2 (st.length + 1) (by rw [List.getElem?_eq_getElem hi, hq])
      rw [List.getElem?_append_right (by omega), show st.length + 1 - st.length = 1 from by omega] at this
      cases this
  refine ⟨t.take st.length, ?_, by rw [List.length_take]; omega, fun j hj => ?_⟩
  · have hd : t.drop st.length = [false, false] := by
      rw [List.drop_eq_getElem_cons (by omega), List.drop_eq_getElem_cons (i := st.length + 1) (by omega), List.drop_eq_nil_of_le (by omega)]
      rw [List.getElem?_eq_getElem (by omega)] at h1 h2
      injection h1 with h1
      injection h2 with h2
      rw [h1, h2]
    rw [← hd, List.take_append_drop]
  · have hjl := (List.getElem?_eq_some_iff.1 hj).1
    rw [List.length_take] at hjl
    rw [List.getElem?_take_of_lt (by omega)] at hj
    have := h.2 j hj
    rw [List.getElem?_append_left (by omega)] at this
    exact this
/-- The frame waits: it is a link of the chain. -/
theorem RunT.link {st l : List Bool} {z : List Nat} (h : RunT c m ⟨st ++ l, z⟩) {pc : Nat} (hpc : c.f.pc = (pc : Nat) ∧ (pc : Int) < c.p.ncode) (hle : Ty.le ⟨st ++ [false, false], z⟩ (c.PT c.cl.p.toNat pc)) {t : Th} (ht : m.vs.threads[c.th]? = some t) {S : List V} (hS : S.take (c.O + st.length) = t.stack.take (c.O + st.length)) (hSl : c.O + st.length ≤ S.length) :
    Chain c.g c.PT m.vs.clos S (c.fs ++ [c.f]) (c.O + st.length) := by
  obtain ⟨t', ht', hR⟩ := h.run
  rw [ht] at ht'
  injection ht' with ht'
  subst ht'
  obtain ⟨a1, a2, a3, a4, a5, a6⟩ := h.cutTop ht
  obtain ⟨st', e1, e2, e3⟩ := two_flags hle.1
  have hzl := (h.prOk.st pc hpc.2).2
  have hO : c.O = c.B + c.p.nslots.toNat := rfl
  have hrt := hR.rt
  refine .snoc (hR.ch.congr h.mi.ok ?_ (fun _ _ h => h) (by omega)) hR.cl hR.pr hR.b hR.rt hpc e1 (by rw [e2]; rfl) (fun s hs => ?_) (fun j hj => ?_) hSl
  · have := congrArg (List.take c.f.ret.toNat) hS
    rw [List.take_take, List.take_take, Nat.min_eq_left (by omega)] at this
    exact this.symm
  · obtain ⟨v, q1, q2⟩ := a2 s (hle.2.2 s hs)
    have hsl := (List.getElem?_eq_some_iff.1 hs).1
    refine ⟨v, ?_, q2⟩
    rw [List.getElem?_take_of_lt (by omega)] at q1
    rw [at_take hS (by omega)]
    exact q1
  · obtain ⟨v, q1, q2⟩ := a3 j (e3 j hj)
    have hjl := (List.getElem?_eq_some_iff.1 hj).1
    refine ⟨v, ?_, q2⟩
    rw [List.getElem?_take_of_lt (by omega)] at q1
    show S[c.O + j]? = _
    rw [at_take hS (by omega)]
    exact q1
/-- The variables' places of the waiting frame. -/
theorem RunT.zlink {ty : Ty} (h : RunT c m ty) {pc : Nat} (hpc : c.f.pc = (pc : Nat)) (hz : zle ty.z (c.PT c.cl.p.toNat pc).z) {q : Int} (hq : c.Z m.vs.clos ty.z q) : ZeroAt c.g c.PT m.vs.clos (c.fs ++ [c.f]) q := by
  obtain ⟨t, ht, hR⟩ := h.run
  rcases hq with ⟨s, q1, q2, q3⟩ | ⟨f, hf, rest⟩
  · exact ⟨c.f, by simp, c.cl, c.p, c.B, s, hR.cl, hR.pr, hR.b, by rw [hpc, Int.toNat_natCast]; exact hz.1 s q1, q2, q3⟩
  · exact ⟨f, List.mem_append_left _ hf, rest⟩
/-- The thread sleeps. -/
theorem RunT.park {st l : List Bool} {z : List Nat} (h : RunT c m ⟨st ++ l, z⟩) {pc : Nat} (hpc : c.f.pc = (pc : Nat) ∧ (pc : Int) < c.p.ncode) (hle : Ty.le ⟨st ++ [false, false], z⟩ (c.PT c.cl.p.toNat pc)) {t : Th} (ht : m.vs.threads[c.th]? = some t) {s : Int} (hs : s = 2 ∨ s = 3) :
    MW c.g c.PT (setTh m c.th { t with st := s, stack := t.stack.take (c.O + st.length) }) := by
  obtain ⟨t', ht', hR⟩ := h.run
  rw [ht] at ht'
  injection ht' with ht'
  subst ht'
  obtain ⟨a1, a2, a3, a4, a5, a6⟩ := h.cutTop ht
  have hE := Eqs.set m c.th { t with st := s, stack := t.stack.take (c.O + st.length) }
  have hfl := hR.fl
  refine ⟨h.mi.set ht rfl rfl, fun u t2 h2 => ?_⟩
  by_cases hu : u = c.th
  · subst hu
    rw [setTh_at ht] at h2
    injection h2 with h2
    subst h2
    refine .inr (.inl ⟨hs, by dsimp only; rw [hR.fr]; simp; omega, ?_, ?_, fun v hv => hE.vv (a6 v hv)⟩)
    · dsimp only
      rw [hR.fr, a4]
      exact h.link hpc hle ht (by rw [List.take_take, Nat.min_self]) (by rw [a4]; exact Nat.le_refl _)
    · dsimp only
      rw [hR.fr]
      exact hR.op.mono (fun _ _ _ h => h) (Nat.le_refl _) fun q hq => h.zlink hpc.1 hle.2 hq
  · rw [setTh_ne hu] at h2
    exact (h.oth u t2 hu h2).eqs h.mi.ok hE
end
end Go.Wl
