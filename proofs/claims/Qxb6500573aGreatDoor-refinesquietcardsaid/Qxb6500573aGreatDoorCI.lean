/- Plain: calls and returns. -/
import Derived.Test.Qxb6500573aGreatDoorCH
namespace Go.Wl
open Go Go.Sl Go.Proofs
set_option linter.unusedVariables false
section
variable {c : Cx} {m : VM}
theorem slotsL_ok (args : List V) (np ns : Nat) {nt nc nh : Nat} (h : ∀ v, v ∈ args → VV nt nc nh v) : (slotsL args np ns).length = ns ∧ ∀ v, v ∈ slotsL args np ns → VV nt nc nh v := by
  unfold slotsL
  refine ⟨by simp, fun v hv => ?_⟩
  obtain ⟨i, hi, rfl⟩ := List.mem_map.1 hv
  split
  · rw [List.getD_eq_getElem?_getD]
    by_cases hl : i < args.length
    · rw [List.getElem?_eq_getElem hl]; exact h _ (List.getElem_mem hl)
    · rw [List.getElem?_eq_none (by omega)]; exact VV.nil
  · exact VV.nil
/-- A new frame. -/
theorem RunT.enter {st l : List Bool} {z : List Nat} (h : RunT c m ⟨st ++ l, z⟩) {pc : Nat} (hpc : c.f.pc = (pc : Nat) ∧ (pc : Int) < c.p.ncode) (hle : Ty.le ⟨st ++ [false, false], z⟩ (c.PT c.cl.p.toNat pc)) (hl : 1 ≤ l.length ∧ l.length ≤ 4) (h128 : st.length + l.length ≤ 128) (hfl : c.fs.length + 1 < 8) {fn : Int} (hfn : 0 ≤ fn ∧ fn < m.vs.clos.length) {args : List V} (ha : ∀ v, v ∈ args → VVm m v) (prot : Bool) :
    ∃ m' c', enterM c.th fn args ((c.O + st.length : Nat) : Int) prot m = some m' ∧ c'.g = c.g ∧ c'.PT = c.PT ∧ c'.th = c.th ∧ c'.fs = c.fs ++ [c.f] ∧ c'.f.pc = 0 ∧ Run c' m' ∧ m'.vs.fuel = m.vs.fuel := by
  obtain ⟨t, ht, hR⟩ := h.run
  have hsm := h.small ht
  obtain ⟨a1, a2, a3, a4, a5, a6⟩ := h.cutTop ht
  have hi : fn.toNat < m.vs.clos.length := by omega
  have hcn := h.mi.cn
  obtain ⟨p, p1, p2, p3, p4⟩ := h.mi.cl fn.toNat _ (List.getElem?_eq_getElem hi)
  have hcl : getI m.vs.clos fn = some m.vs.clos[fn.toNat] := getI_mk (by omega) (List.getElem?_eq_getElem hi)
  have hp := h.mi.ok.pr _ _ (getI_lt' p1).2.2
  have hnp := hp.np
  have hcd := hp.cd
  obtain ⟨s1, s2⟩ := slotsL_ok args p.nparams.toNat p.nslots.toNat ha
  have hfr : t.frames.length = c.fs.length + 1 := by rw [hR.fr]; simp
  have hE := Eqs.set m c.th { t with stack := t.stack ++ slotsL args p.nparams.toNat p.nslots.toNat, frames := t.frames ++ [⟨fn, 0, t.stack.length, ((c.O + st.length : Nat) : Int), prot⟩] }
  refine ⟨setTh m c.th { t with stack := t.stack ++ slotsL args p.nparams.toNat p.nslots.toNat, frames := t.frames ++ [⟨fn, 0, t.stack.length, ((c.O + st.length : Nat) : Int), prot⟩] }, ⟨c.g, c.PT, c.th, c.fs ++ [c.f], ⟨fn, 0, t.stack.length, ((c.O + st.length : Nat) : Int), prot⟩, m.vs.clos[fn.toNat], p, t.stack.length⟩, ?_, rfl, rfl, rfl, rfl, rfl, ?_, rfl⟩
  · unfold enterM getT
    rw [hcl, bind1_some, h.mi.pg, p1, bind1_some, ht, bind1_some, if_pos (by omega)]
  · refine ⟨0, rfl, by dsimp only; omega, h.mi.set ht rfl rfl, ⟨_, setTh_at ht, ?_⟩, fun u t2 hu h2 => ?_⟩
    · dsimp only
      refine ⟨hR.st, by dsimp only; rw [hR.fr], by simp; omega, ?_, ?_, hcl, p1, rfl, ⟨by dsimp only; omega, by dsimp only; omega, by dsimp only; omega, fun q => by simp at q, fun _ => by dsimp only; omega, fun f' hf' => ?_⟩, by rw [hp.t0.1]; simp, (hp.st 0 (by omega)).2, fun s hs => absurd hs (hp.t0.2 s), fun j hj => by rw [hp.t0.1] at hj; simp at hj, ?_, fun v hv => ?_⟩
      · dsimp only [Cx.O]
        rw [hp.t0.1, List.length_append, s1]
        simp
      · dsimp only
        rw [Int.toNat_natCast]
        exact h.link hpc hle ht (by rw [List.take_append_of_le_length (by omega)]) (by rw [List.length_append]; omega)
      · rw [List.getLast?_concat] at hf'
        injection hf' with hf'
        subst hf'
        refine ⟨c.cl, c.p, hR.cl, hR.pr, ?_⟩
        have e1 := hR.sl
        have e2 := hR.b
        have e3 := h.prOk.np
        dsimp only [Cx.O] at e1 ⊢
        rw [List.length_append] at e1
        omega
      · exact hR.op.mono (fun _ _ _ h => h) (Nat.le_refl _) fun q hq => .inr (h.zlink hpc.1 hle.2 hq)
      · dsimp only at hv
        rcases List.mem_append.1 hv with hv | hv
        · exact hE.vv (hR.vv v hv)
        · exact hE.vv (s2 v hv)
    · dsimp only at hu
      rw [setTh_ne hu] at h2
      exact (h.oth u t2 hu h2).eqs h.mi.ok hE
/-- A new thread. -/
theorem RunT.spawn {ty : Ty} (h : RunT c m ty) (hn : m.vs.threads.length < 5) {fn : Int} (hfn : 0 ≤ fn ∧ fn < m.vs.clos.length) : RunT c { m with vs := { m.vs with threads := m.vs.threads ++ [thNew fn] } } ty := by
  obtain ⟨t, ht, hR⟩ := h.run
  have hl : m.vs.threads.length ≤ (m.vs.threads ++ [thNew fn]).length := by simp
  have hE : ∀ v, VVm m v → VVm { m with vs := { m.vs with threads := m.vs.threads ++ [thNew fn] } } v := fun v hv => hv.mono (Nat.le_refl _) (Nat.le_refl _) hl
  have hat : ∀ (u : Nat) (t2 : Th), m.vs.threads[u]? = some t2 → (m.vs.threads ++ [thNew fn])[u]? = some t2 := fun u t2 h2 => by rw [List.getElem?_append_left (List.getElem?_eq_some_iff.1 h2).1]; exact h2
  refine ⟨⟨h.mi.ok, h.mi.pg, fun t ht => (h.mi.tb t ht).mono (Nat.le_refl _) (Nat.le_refl _) hl, h.mi.tn, h.mi.cn, h.mi.cl, h.mi.ux, h.mi.ul, fun j e he => ⟨fun h0 => ?_, fun h0 => hE _ ((h.mi.ce j e he).2 h0)⟩, by simp; omega, h.mi.fu, h.mi.ou, h.mi.en, h.mi.cx, h.mi.ct, fun u t2 h2 => ?_⟩, ⟨t, hat _ _ ht, ?_⟩, fun u t2 hu h2 => ?_⟩
  · obtain ⟨t1, q1, q2⟩ := (h.mi.ce j e he).1 h0
    exact ⟨t1, hat _ _ q1, q2⟩
  · have h2' : (m.vs.threads ++ [thNew fn])[u]? = some t2 := h2
    by_cases hul : u < m.vs.threads.length
    · rw [List.getElem?_append_left hul] at h2'
      exact h.mi.fn u t2 h2'
    · have hul2 := (List.getElem?_eq_some_iff.1 h2').1
      rw [List.length_append, List.length_singleton] at hul2
      rw [List.getElem?_append_right (by omega), show u - m.vs.threads.length = 0 from by omega] at h2'
      injection h2' with h2'
      subst h2'
      exact hfn
  · exact ⟨hR.st, hR.fr, hR.fl, hR.sl, hR.ch, hR.cl, hR.pr, hR.b, hR.rt, hR.sz, hR.zl, hR.ns, hR.no, hR.op, fun v hv => hE v (hR.vv v hv)⟩
  · have h2' : (m.vs.threads ++ [thNew fn])[u]? = some t2 := h2
    by_cases hul : u < m.vs.threads.length
    · rw [List.getElem?_append_left hul] at h2'
      exact (h.oth u t2 hu h2').mono h.mi.ok (Nat.le_refl _) (Nat.le_refl _) hl (fun _ _ h => h) (fun _ _ _ h => h) (Nat.le_refl _)
    · have hul2 := (List.getElem?_eq_some_iff.1 h2').1
      rw [List.length_append, List.length_singleton] at hul2
      rw [List.getElem?_append_right (by omega), show u - m.vs.threads.length = 0 from by omega] at h2'
      injection h2' with h2'
      subst h2'
      exact .inl ⟨rfl, rfl, rfl, rfl, hfn.1, hfn.2⟩
/-- The thread ends. -/
theorem RunT.kill {ty : Ty} (h : RunT c m ty) : ∃ m', killM c.th m = some m' ∧ MW c.g c.PT m' ∧ (∀ v, VVm m v → VVm m' v) := by
  obtain ⟨t, ht, hR⟩ := h.run
  obtain ⟨o', cs, g1, g2, g3, g4⟩ := RunX.closeCore h ht 0
  have ho : o' = [] := by
    cases o' with
    | nil => rfl
    | cons j l =>
      obtain ⟨e, _, _, q1, q2⟩ := g4.at_ j List.mem_cons_self
      have := RunX.zlt h ht q1
      omega
  subst ho
  have ht0 : ({ m with vs := { m.vs with cells := cs } } : VM).vs.threads[c.th]? = some t := ht
  have e1 : killM c.th m = some (setTh (setTh { m with vs := { m.vs with cells := cs } } c.th { t with opn := [] }) c.th { ({ t with opn := [] } : Th) with st := 5, stack := [], frames := [] }) := by
    unfold killM
    rw [g1, bind1_some]
    unfold getT
    rw [setTh_at ht0, bind1_some]
  have e2 : setTh (setTh { m with vs := { m.vs with cells := cs } } c.th { t with opn := [] }) c.th { ({ t with opn := [] } : Th) with st := 5, stack := [], frames := [] } = setTh { m with vs := { m.vs with cells := cs } } c.th ⟨5, t.fn, [], [], []⟩ := by
    unfold setTh
    simp
  rw [e2] at e1
  refine ⟨_, e1, ⟨g2 _ rfl rfl, fun u t2 h2 => ?_⟩, fun v hv => by unfold VVm; rw [setTh_len]; exact hv⟩
  by_cases hu : u = c.th
  · subst hu
    rw [setTh_at ht0] at h2
    injection h2 with h2
    subst h2
    exact .inr (.inr ⟨rfl, rfl, rfl, rfl⟩)
  · rw [setTh_ne hu] at h2
    exact g3 _ u t2 hu h2
/-- Back to the frame k-1: the stack is cut to where the frame k's results go, two values come upon it. -/
theorem RunT.back {ty : Ty} (h : RunT c m ty) {k : Nat} {f : Fr} (hk : (c.fs ++ [c.f])[k + 1]? = some f) {x y : V} (hx : VVm m x) (hy : VVm m y) :
    ∃ (o' : List Int) (cs : List Ce) (t : Th) (c' : Cx), m.vs.threads[c.th]? = some t ∧ closeM c.th f.base m = some (setTh { m with vs := { m.vs with cells := cs } } c.th { t with opn := o' }) ∧ (0 ≤ f.ret ∧ f.ret ≤ t.stack.length) ∧ t.stack.length ≤ 2300 ∧
      c'.g = c.g ∧ c'.PT = c.PT ∧ c'.th = c.th ∧ c'.fs ++ [c'.f] = (c.fs ++ [c.f]).take (k + 1) ∧ Run c' (setTh { m with vs := { m.vs with cells := cs } } c.th { t with opn := o', stack := t.stack.take f.ret.toNat ++ [x, y], frames := (c.fs ++ [c.f]).take (k + 1) }) := by
  obtain ⟨t, ht, hR⟩ := h.run
  have hsm := h.small ht
  obtain ⟨o', cs, g1, g2, g3, g4⟩ := RunX.closeCore h ht f.base
  have hrt := hR.rt
  -- the frames below
  obtain ⟨B, hch, hB, hret, hBl, hzz⟩ : ∃ B : Nat, Chain c.g c.PT m.vs.clos t.stack ((c.fs ++ [c.f]).take (k + 1)) f.ret.toNat ∧ f.base = (B : Nat) ∧ (0 ≤ f.ret ∧ f.ret ≤ B) ∧ B ≤ t.stack.length ∧ ∀ q, c.Z m.vs.clos ty.z q → q < f.base → ZeroAt c.g c.PT m.vs.clos ((c.fs ++ [c.f]).take (k + 1)) q := by
    by_cases hkl : k + 1 < c.fs.length
    · rw [List.getElem?_append_left hkl] at hk
      obtain ⟨B, h1, h2, h3, h4⟩ := hR.ch.at hk
      refine ⟨B, by rw [List.take_append_of_le_length (by omega)]; exact h1, h2, h3, by have := hR.ch.len; omega, fun q hq hlt => ?_⟩
      rw [List.take_append_of_le_length (by omega)]
      rcases hq with ⟨s, q1, q2, q3⟩ | hq
      · exfalso; omega
      · exact hR.ch.under h.mi.ok hk hq hlt
    · have hkl2 := (List.getElem?_eq_some_iff.1 hk).1
      rw [List.length_append, List.length_singleton] at hkl2
      have hke : k + 1 = c.fs.length := by omega
      rw [hke, List.getElem?_append_right (Nat.le_refl _), Nat.sub_self] at hk
      injection hk with hk
      subst hk
      refine ⟨c.B, by rw [hke, List.take_left' rfl]; exact hR.ch, hR.b, ⟨hrt.1, hrt.2.1⟩, by omega, fun q hq hlt => ?_⟩
      rw [hke, List.take_left' rfl]
      rcases hq with ⟨s, q1, q2, q3⟩ | hq
      · exfalso
        have := hR.b
        omega
      · exact hq
  have hlen : ((c.fs ++ [c.f]).take (k + 1)).length = k + 1 := by
    have := (List.getElem?_eq_some_iff.1 hk).1
    rw [List.length_take]; omega
  have hfl := hR.fl
  have hkl : k + 1 ≤ c.fs.length := by
    have := (List.getElem?_eq_some_iff.1 hk).1
    rw [List.length_append, List.length_singleton] at this
    omega
  rcases hch.inv with ⟨q, _⟩ | ⟨fs', f', cl', p', B', pc', st', i1, i2, i3, i4, i5, i6, i7, i8, i9, i10, i11, i12⟩
  · rw [q] at hlen; simp at hlen
  have ht0 : ({ m with vs := { m.vs with cells := cs } } : VM).vs.threads[c.th]? = some t := ht
  have hp' := h.mi.ok.pr _ _ (getI_lt' i4).2.2
  have hE : ∀ v, VVm m v → VVm (setTh { m with vs := { m.vs with cells := cs } } c.th { t with opn := o', stack := t.stack.take f.ret.toNat ++ [x, y], frames := (c.fs ++ [c.f]).take (k + 1) }) v := fun v hv => by
    unfold VVm; rw [setTh_len]; exact hv
  have htl : (t.stack.take f.ret.toNat).length = f.ret.toNat := by rw [List.length_take]; omega
  refine ⟨o', cs, t, ⟨c.g, c.PT, c.th, fs', f', cl', p', B'⟩, ht, g1, by omega, by omega, rfl, rfl, rfl, i1.symm, pc', i7.1, i7.2, g2 _ rfl rfl, ⟨_, setTh_at ht0, ?_⟩, fun u t2 hu h2 => ?_⟩
  · dsimp only
    have hst128 := (hp'.st pc' i7.2).1
    have hlen2 : fs'.length + 1 = k + 1 := by rw [i1] at hlen; simpa using hlen
    have htk : ∀ n, n ≤ f.ret.toNat → (t.stack.take f.ret.toNat ++ [x, y]).take n = t.stack.take n := fun n hn => by
      rw [List.take_append_of_le_length (by omega), List.take_take, Nat.min_eq_left hn]
    refine ⟨hR.st, i1, by dsimp only; omega, ?_, ?_, i3, i4, i5, i6, by omega, (hp'.st pc' i7.2).2, fun s hs => ?_, fun j hj => ?_, ?_, fun v hv => ?_⟩
    · dsimp only [Cx.O]
      rw [List.length_append, htl, i8]
      simp
      omega
    · exact i2.congr h.mi.ok (htk _ (by omega)).symm (fun _ _ h => h) (by rw [List.length_append]; omega)
    · obtain ⟨v, q1, q2⟩ := i10 s hs
      have hsl := (List.getElem?_eq_some_iff.1 hs).1
      have hzl := (hp'.st pc' i7.2).2
      refine ⟨v, ?_, q2⟩
      dsimp only
      rw [List.getElem?_append_left (by omega), List.getElem?_take_of_lt (by omega)]
      exact q1
    · rw [i8] at hj
      have hjl : j < st'.length := by
        refine Decidable.byContradiction fun q => ?_
        rw [List.getElem?_append_right (by omega)] at hj
        have : j - st'.length = 0 ∨ j - st'.length = 1 ∨ 2 ≤ j - st'.length := by omega
        rcases this with q | q | q
        · rw [q] at hj; cases hj
        · rw [q] at hj; cases hj
        · rw [List.getElem?_eq_none (by simpa using q)] at hj; cases hj
      rw [List.getElem?_append_left hjl] at hj
      obtain ⟨v, q1, q2⟩ := i11 j hj
      refine ⟨v, ?_, q2⟩
      dsimp only [Cx.O]
      rw [List.getElem?_append_left (by omega), List.getElem?_take_of_lt (by omega)]
      exact q1
    · refine g4.mono (fun _ _ _ h => h) (Nat.le_refl _) fun q hq => ?_
      obtain ⟨f2, hf2, cl2, p2, B2, s, h1, h2, h3, h4, h5, h6⟩ := hzz q hq.1 hq.2
      rw [i1] at hf2
      rcases List.mem_append.1 hf2 with hf2 | hf2
      · exact .inr ⟨f2, hf2, cl2, p2, B2, s, h1, h2, h3, h4, h5, h6⟩
      · rw [List.mem_singleton] at hf2
        subst hf2
        have h1' : getI m.vs.clos f2.clo = some cl2 := h1
        rw [i3] at h1'
        injection h1' with h1'
        subst h1'
        rw [i4] at h2
        injection h2 with h2
        subst h2
        refine .inl ⟨s, ?_, h5, by rw [h6]; dsimp only; omega⟩
        rw [i7.1, Int.toNat_natCast] at h4
        exact h4
    · dsimp only at hv
      rcases List.mem_append.1 hv with hv | hv
      · exact hE v (hR.vv v (List.mem_of_mem_take hv))
      · simp only [List.mem_cons, List.not_mem_nil, or_false] at hv
        rcases hv with rfl | rfl
        · exact hE _ hx
        · exact hE _ hy
  · dsimp only at hu
    rw [setTh_ne hu] at h2
    exact g3 _ u t2 hu h2
end
end Go.Wl
