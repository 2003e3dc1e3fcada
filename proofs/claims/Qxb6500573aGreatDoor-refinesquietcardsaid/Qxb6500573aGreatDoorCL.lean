/- Plain: the loop, unwinding, a run of a thread: they answer. -/
import Derived.Test.Qxb6500573aGreatDoorCK
import Derived.Test.Qxb6500573aGreatDoorED
namespace Go.Wl
open Go Go.Sl Go.Proofs
set_option linter.unusedVariables false
set_option maxRecDepth 100000
section
variable {c : Cx} {m : VM}
/-- What the loop leaves. -/
def LOk (c : Cx) (m0 : VM) : Out Ev → Prop
  | .ok e m => EvOk c.g c.PT c.th e m ∧ (e.k = 4 → m.vs.fuel < m0.vs.fuel)
  | .thr v m => ∃ c' ty, c'.g = c.g ∧ c'.PT = c.PT ∧ c'.th = c.th ∧ RunT c' m ty ∧ VVm m v ∧ c'.f.pc ≤ 65536 ∧ mu c' m ≤ mu c m0
  | .trp e m => TrpO e m
theorem mul_mono {a b : Int} (h : a ≤ b) : a.toNat * 1000000 ≤ b.toNat * 1000000 := Nat.mul_le_mul_right _ (Int.toNat_le_toNat h)
theorem Run.th_lt (h : Run c m) : c.th < m.vs.threads.length := by
  obtain ⟨pc, _, _, hR⟩ := h
  obtain ⟨t, ht, _⟩ := hR.run
  exact (List.getElem?_eq_some_iff.1 ht).1
theorem loop_ok (n : Nat) : ∀ {c : Cx} {m : VM}, Run c m → FB m → mu c m < n → ∃ o, loopM c.th n m = some o ∧ LOk c m o := by
  induction n with
  | zero => intro c m _ _ h; exact absurd h (Nat.not_lt_zero _)
  | succ n ih =>
    intro c m hr hf hn
    obtain ⟨o, h1, h2⟩ := step_ok hr
    have hB := (b_vstep m hr.th_lt hf o h1).1
    unfold loopM
    rw [h1]
    cases o with
    | ok e m1 =>
      have hB' : MoB c.th m m1 := hB
      rcases h2 with ⟨q1, c', q2, q3, q4, q5, q6⟩ | q
      · subst q1
        show ∃ o, (if (0 : Int) ≠ 0 then some (Out.ok ev0 m1) else loopM c.th n m1) = some o ∧ _
        rw [if_neg (fun q => q rfl)]
        have hfu := hB'.fuel
        obtain ⟨o, g1, g2⟩ := ih q5 ⟨hB'.nn, by have := hf.2; omega⟩ (by omega)
        rw [q4] at g1
        refine ⟨o, g1, ?_⟩
        cases o with
        | ok e m2 =>
          obtain ⟨x1, x2⟩ := g2
          rw [q2, q3, q4] at x1
          exact ⟨x1, fun k => Int.lt_of_lt_of_le (x2 k) hfu⟩
        | thr v m2 =>
          obtain ⟨c2, ty, x1, x2, x3, x4, x5, x6, x7⟩ := g2
          exact ⟨c2, ty, x1.trans q2, x2.trans q3, x3.trans q4, x4, x5, x6, by omega⟩
        | trp e m2 => exact g2
      · have hk : e.k ≠ 0 := by
          rcases q.1.kd with (k | k) | k | ⟨k, _⟩ <;> omega
        refine ⟨.ok e m1, ?_, q⟩
        show (if e.k ≠ 0 then some (Out.ok e m1) else loopM c.th n m1) = _
        rw [if_pos hk]
    | thr v m1 =>
      obtain ⟨c', ty, q1, q2, q3, q4, q5, q6, q7, q8⟩ := h2
      have hB' : MoB c.th m m1 := hB
      refine ⟨.thr v m1, rfl, c', ty, q1, q2, q3, q4, q5, q8, ?_⟩
      rw [mu_c, mu_c, q6]
      exact Nat.add_le_add (Nat.add_le_add_right (mul_mono hB'.fuel) _) (w_mono q7)
    | trp e m1 => exact ⟨.trp e m1, rfl, h2⟩
/-- The value has gone up to the protected call, or out of the thread. -/
theorem unwindL_ok {ty : Ty} (h : RunT c m ty) (hpc : c.f.pc ≤ 65536) {v : V} (hv : VVm m v) : ∀ n, n ≤ c.fs.length → ∃ r, unwindL c.th v m n = some r ∧ ((r.2.1 = true ∧ EvOk c.g c.PT c.th r.1 r.2.2 ∧ r.1.k = 2) ∨ (r.2.1 = false ∧ ∃ c', c'.g = c.g ∧ c'.PT = c.PT ∧ c'.th = c.th ∧ Run c' r.2.2 ∧ mu c' r.2.2 < mu c m))
  | 0, _ => by
    obtain ⟨t, ht, hR⟩ := h.run
    obtain ⟨m3, k1, k2, k3⟩ := h.kill
    unfold unwindL
    refine ⟨_, by rw [k1, bind1_some], .inl ⟨rfl, ⟨k2, k3 _ hv, .inl (.inr rfl), ?_, fun q => by dsimp only at q; omega⟩, rfl⟩⟩
    obtain ⟨o', cs, z1, z2, z3, z4⟩ := RunX.closeCore h ht 0
    have ht0 : ({ m with vs := { m.vs with cells := cs } } : VM).vs.threads[c.th]? = some t := ht
    unfold killM at k1
    rw [z1, bind1_some] at k1
    unfold getT at k1
    rw [setTh_at ht0, bind1_some, setTh_set] at k1
    injection k1 with k1
    subst k1
    exact ⟨_, setTh_at ht0, fun q => by dsimp only at q; omega, fun q => by dsimp only at q; omega, fun _ => rfl⟩
  | n + 1, hn => by
    obtain ⟨t, ht, hR⟩ := h.run
    have hfr : t.frames.length = c.fs.length + 1 := by rw [hR.fr]; simp
    have hi : n + 1 < (c.fs ++ [c.f]).length := by simp; omega
    have hat : (c.fs ++ [c.f])[n + 1]? = some (c.fs ++ [c.f])[n + 1] := List.getElem?_eq_getElem hi
    have hgf : getF m c.th (n + 1) = some (c.fs ++ [c.f])[n + 1] := by
      unfold getF getT
      rw [ht, bind1_some, hR.fr]
      exact hat
    unfold unwindL
    rw [hgf, bind1_some]
    by_cases hp : (c.fs ++ [c.f])[n + 1].prot = true
    · rw [if_pos hp]
      obtain ⟨o', cs, t', c', b1, b2, b3, b4, b5, b6, b7, b8, b9⟩ := h.back hat (x := v1) (y := v) (VV.bool false) hv
      rw [ht] at b1
      injection b1 with b1
      subst b1
      have ht0 : ({ m with vs := { m.vs with cells := cs } } : VM).vs.threads[c.th]? = some t := ht
      have hgf2 : getF (setTh { m with vs := { m.vs with cells := cs } } c.th { t with opn := o' }) c.th (n + 1) = some (c.fs ++ [c.f])[n + 1] := by
        unfold getF getT
        rw [setTh_at ht0, bind1_some, hR.fr]
        exact hat
      rw [b2, bind1_some, hgf2, bind1_some]
      unfold getT
      rw [setTh_at ht0, bind1_some, if_pos ⟨b3.1, b3.2, by dsimp only; omega⟩, setTh_set]
      unfold pushM getT
      rw [setTh_at ht0, bind1_some]
      have hlt : (t.stack.take (c.fs ++ [c.f])[n + 1].ret.toNat).length + [v1, v].length ≤ 1000000 := by rw [List.length_take]; simp only [List.length_cons, List.length_nil]; omega
      rw [if_pos hlt, bind1_some, setTh_set]
      dsimp only
      rw [hR.fr]
      refine ⟨_, rfl, .inr ⟨rfl, c', b5, b6, b7, b9, ?_⟩⟩
      have hsum : (((c.fs ++ [c.f]).take (n + 1)).map wF).sum + 1 ≤ ((c.fs ++ [c.f]).map wF).sum := by
        rw [List.take_append_of_le_length hn, List.map_append, List.sum_append]
        have h1 : (c.fs.map wF).sum = ((c.fs.take (n + 1)).map wF).sum + ((c.fs.drop (n + 1)).map wF).sum := by
          rw [← List.sum_append, ← List.map_append, List.take_append_drop]
        have h2 : 1 ≤ wF c.f := by unfold wF; omega
        simp only [List.map_cons, List.map_nil, List.sum_cons, List.sum_nil]
        omega
      unfold mu
      rw [b8]
      show m.vs.fuel.toNat * 1000000 + _ < _
      omega
    · rw [if_neg hp]
      exact unwindL_ok h hpc hv n (by omega)
theorem unwind_ok {ty : Ty} (h : RunT c m ty) (hpc : c.f.pc ≤ 65536) {v : V} (hv : VVm m v) : ∃ r, unwindM c.th v m = some r ∧ ((r.2.1 = true ∧ EvOk c.g c.PT c.th r.1 r.2.2 ∧ r.1.k = 2) ∨ (r.2.1 = false ∧ ∃ c', c'.g = c.g ∧ c'.PT = c.PT ∧ c'.th = c.th ∧ Run c' r.2.2 ∧ mu c' r.2.2 < mu c m)) := by
  obtain ⟨t, ht, hR⟩ := h.run
  have hfr : t.frames.length = c.fs.length + 1 := by rw [hR.fr]; simp
  have hfl := hR.fl
  unfold unwindM getT
  rw [ht, bind1_some, if_pos (by omega), hfr]
  exact unwindL_ok h hpc hv _ (by omega)
/-- The machine stopped short and was emptied. -/
def WipO (m : VM) : Prop := (m.ended ≠ 0 ∧ m.pg = ⟨[], [], [], []⟩ ∧ m.vs.clos = [] ∧ m.vs.upix = [] ∧ m.vs.cells = [] ∧ m.vs.threads = []) ∧ m.vs.out.length ≤ 200 ∧ ∃ nt nc nh, TsOk nt nc nh m.vs.tabs
/-- What a run of a thread leaves. -/
def XOk (g : Pg) (PT : Nat → Nat → Ty) (th : Nat) (m0 : VM) (e : Ev) (m : VM) : Prop := (EvOk g PT th e m ∧ (e.k = 4 → m.vs.fuel < m0.vs.fuel)) ∨ (e.k = 5 ∧ (e.e = 8 ∨ e.e = 9 ∨ e.e = 10) ∧ m.vs.tabs.length ≤ 1000 ∧ (e.e = 9 → m.vs.fuel = 0) ∧ WipO m)
theorem exec_ok (n : Nat) (k : Nat) : ∀ {c : Cx} {m : VM}, Run c m → FB m → mu c m < n → mu c m < k → ∃ e m', execL c.th n k m = some (e, m') ∧ XOk c.g c.PT c.th m e m' := by
  induction k with
  | zero => intro c m _ _ _ h; exact absurd h (Nat.not_lt_zero _)
  | succ k ih =>
    intro c m hr hf hn hk
    have hf' : FB m := hf
    have hf2 := hf.2
    obtain ⟨o, h1, h2⟩ := loop_ok n hr hf' hn
    have hB := loop_mo n hr.th_lt hf' h1
    unfold execL
    rw [h1, bind1_some]
    cases o with
    | ok e m1 =>
      refine ⟨e, m1, ?_, .inl h2⟩
      show bind1 (some (e, true, m1)) _ = _
      rw [bind1_some, if_pos rfl]
    | thr v m1 =>
      obtain ⟨c', ty, q1, q2, q3, q4, q5, q6, q7⟩ := h2
      have hB' : MoB c.th m m1 := hB
      have hfu := hB'.fuel
      obtain ⟨r, r1, r2⟩ := unwind_ok q4 q6 q5
      rw [q3] at r1
      have hM := (n_unwind v m1 (by have := hB'.nth; have := hr.th_lt; omega)).2 r r1
      show ∃ e m', bind1 (unwindM c.th v m1) _ = _ ∧ _
      rw [r1, bind1_some]
      rcases r2 with ⟨x1, x2, x3⟩ | ⟨x1, c2, x2, x3, x4, x5, x6⟩
      · rw [if_pos x1]
        rw [q1, q2, q3] at x2
        exact ⟨_, _, rfl, .inl ⟨x2, fun q => by omega⟩⟩
      · rw [if_neg (by rw [x1]; decide)]
        have hfr := hM.fuel
        obtain ⟨e, m', g1, g2⟩ := ih x5 (by unfold FB; rw [hfr]; exact ⟨hB'.nn, by omega⟩) (by omega) (by omega)
        rw [x4, q3] at g1
        rw [x2, x3, x4, q1, q2, q3] at g2
        refine ⟨e, m', g1, ?_⟩
        rcases g2 with ⟨y1, y2⟩ | y
        · exact .inl ⟨y1, fun q => by have := y2 q; omega⟩
        · exact .inr y
    | trp e m1 =>
      refine ⟨⟨5, 0, e, V.nil, V.nil⟩, wipeM e m1, ?_, .inr ⟨rfl, h2.1, h2.2.1, fun q => ?_, ⟨⟨by show e ≠ 0; have := h2.1; omega, rfl, rfl, rfl, rfl, rfl⟩, h2.2.2.1, h2.2.2.2⟩⟩⟩
      · show bind1 (some ((⟨5, 0, e, V.nil, V.nil⟩ : Ev), true, wipeM e m1)) _ = _
        rw [bind1_some, if_pos rfl]
      · have q : e = 9 := q
        subst q
        have := loop_t9 n hr.th_lt hf h1
        exact this
end
section
variable {g : Pg} {PT : Nat → Nat → Ty} {m : VM}
theorem valid_ok {v : V} (hv : VVm m v) (h1 : m.vs.tabs.length ≤ 1000) (h2 : m.vs.clos.length ≤ 1000) (h3 : m.vs.threads.length ≤ 1000) : validM v m = some true := by
  unfold validM
  rw [if_pos hv.wl]
  by_cases q2 : v.t = 2
  · rw [if_pos q2, if_pos hv.nn]
    rcases (hv.num q2).2 with q | q
    · rw [q]; rfl
    · rw [decide_eq_true q, Bool.or_true]
  rw [if_neg q2]
  by_cases q4 : v.t = 4
  · rw [if_pos q4, if_pos (by omega), decide_eq_true (hv.tab q4)]
  rw [if_neg q4]
  by_cases q5 : v.t = 5
  · rw [if_pos q5, if_pos (by omega), decide_eq_true (hv.clo q5)]
  rw [if_neg q5]
  by_cases q7 : v.t = 7
  · rw [if_pos q7, if_pos (by omega), decide_eq_true (hv.thr q7)]
  rw [if_neg q7]
/-- A fresh thread begins. -/
theorem MW.start (h : MW g PT m) {th : Nat} {t : Th} (ht : m.vs.threads[th]? = some t) (hs : t.st = 1) {a : V} (ha : VVm m a) : ∃ m1 t1 c, enterM th t.fn [a] 0 false m = some m1 ∧ m1.vs.threads[th]? = some t1 ∧ c.g = g ∧ c.PT = PT ∧ c.th = th ∧ Run c (setTh m1 th { t1 with st := 4 }) ∧ mu c (setTh m1 th { t1 with st := 4 }) ≤ m.vs.fuel.toNat * 1000000 + 600000 ∧ m1.vs.fuel = m.vs.fuel := by
  rcases h.all th t ht with ⟨_, e1, e2, e3, e4, e5⟩ | ⟨q, _⟩ | ⟨q, _⟩
  · have hi : t.fn.toNat < m.vs.clos.length := by omega
    have hcn := h.mi.cn
    obtain ⟨p, p1, p2, p3, p4⟩ := h.mi.cl t.fn.toNat _ (List.getElem?_eq_getElem hi)
    have hcl : getI m.vs.clos t.fn = some m.vs.clos[t.fn.toNat] := getI_mk (by omega) (List.getElem?_eq_getElem hi)
    have hp := h.mi.ok.pr _ _ (getI_lt' p1).2.2
    have hnp := hp.np
    have hcd := hp.cd
    obtain ⟨s1, s2⟩ := slotsL_ok [a] p.nparams.toNat p.nslots.toNat (nt := m.vs.tabs.length) (nc := m.vs.clos.length) (nh := m.vs.threads.length) (fun v hv => by rw [List.mem_singleton] at hv; subst hv; exact ha)
    have hen : enterM th t.fn [a] 0 false m = some (setTh m th { t with stack := slotsL [a] p.nparams.toNat p.nslots.toNat, frames := [⟨t.fn, 0, 0, 0, false⟩] }) := by
      unfold enterM getT
      rw [hcl, bind1_some, h.mi.pg, p1, bind1_some, ht, bind1_some, e1, e2, if_pos (by simp; omega)]
      rfl
    refine ⟨_, _, ⟨g, PT, th, [], ⟨t.fn, 0, 0, 0, false⟩, m.vs.clos[t.fn.toNat], p, 0⟩, hen, setTh_at ht, rfl, rfl, rfl, ?_, ?_, rfl⟩
    · rw [setTh_set]
      have hE := Eqs.set m th { t with st := 4, stack := slotsL [a] p.nparams.toNat p.nslots.toNat, frames := [⟨t.fn, 0, 0, 0, false⟩] }
      refine ⟨0, rfl, by dsimp only; omega, h.mi.set ht rfl rfl, ⟨_, setTh_at ht, ?_⟩, fun u t2 hu h2 => ?_⟩
      · dsimp only
        refine ⟨rfl, rfl, by simp, ?_, .nil, hcl, p1, rfl, ⟨by simp, by simp, by simp, fun _ => ⟨rfl, rfl, rfl⟩, fun q => absurd rfl q, fun f' hf' => by cases hf'⟩, by rw [hp.t0.1]; simp, (hp.st 0 (by omega)).2, fun s hs => absurd hs (hp.t0.2 s), fun j hj => by rw [hp.t0.1] at hj; simp at hj, ?_, fun v hv => hE.vv (s2 v hv)⟩
        · dsimp only [Cx.O]
          rw [hp.t0.1, s1]
          simp
        · dsimp only
          rw [e3]
          exact ⟨fun j hj => (by cases hj), List.Pairwise.nil, Nat.zero_le _⟩
      · dsimp only at hu
        rw [setTh_ne hu] at h2
        exact (h.all u t2 h2).eqs h.mi.ok hE
    · rw [mu_c]
      show m.vs.fuel.toNat * 1000000 + _ + _ ≤ _
      simp
  · omega
  · omega
/-- A thread that slept goes on. -/
theorem MW.wake (h : MW g PT m) {th : Nat} {t : Th} (ht : m.vs.threads[th]? = some t) (hs : t.st = 2 ∨ t.st = 3) {a b : V} (ha : VVm m a) (hb : VVm m b) : ∃ m1 t1 c, pushM th [a, b] m = some m1 ∧ m1.vs.threads[th]? = some t1 ∧ c.g = g ∧ c.PT = PT ∧ c.th = th ∧ Run c (setTh m1 th { t1 with st := 4 }) ∧ mu c (setTh m1 th { t1 with st := 4 }) ≤ m.vs.fuel.toNat * 1000000 + 600000 ∧ m1.vs.fuel = m.vs.fuel := by
  rcases h.all th t ht with ⟨q, _⟩ | ⟨_, a2, a3, a4, a5⟩ | ⟨q, _⟩
  · omega
  · have hb2 := a3.bound h.mi.ok
    have hsum := a3.sum h.mi.ok
    rcases a3.inv with ⟨q, _⟩ | ⟨fs', f', cl', p', B', pc', st', i1, i2, i3, i4, i5, i6, i7, i8, i9, i10, i11, i12⟩
    · rw [q] at a2; simp at a2
    have hp' := h.mi.ok.pr _ _ (getI_lt' i4).2.2
    have hpu : pushM th [a, b] m = some (setTh m th { t with stack := t.stack ++ [a, b] }) := by
      unfold pushM getT
      rw [ht, bind1_some, if_pos (by simp; omega)]
    have hfl : fs'.length + 1 = t.frames.length := by rw [i1]; simp
    refine ⟨_, _, ⟨g, PT, th, fs', f', cl', p', B'⟩, hpu, setTh_at ht, rfl, rfl, rfl, ?_, ?_, rfl⟩
    · rw [setTh_set]
      have hE := Eqs.set m th { t with st := 4, stack := t.stack ++ [a, b] }
      have hst128 := (hp'.st pc' i7.2).1
      refine ⟨pc', i7.1, i7.2, h.mi.set ht rfl rfl, ⟨_, setTh_at ht, ?_⟩, fun u t2 hu h2 => ?_⟩
      · dsimp only
        refine ⟨rfl, i1, by dsimp only; omega, ?_, ?_, i3, i4, i5, i6, by omega, (hp'.st pc' i7.2).2, fun s hs => ?_, fun j hj => ?_, ?_, fun v hv => ?_⟩
        · dsimp only [Cx.O]
          rw [List.length_append, i8]
          simp
          omega
        · refine i2.congr h.mi.ok ?_ (fun _ _ h => h) (by rw [List.length_append]; omega)
          rw [List.take_append_of_le_length (by omega)]
        · obtain ⟨v, q1, q2⟩ := i10 s hs
          exact ⟨v, by dsimp only; rw [List.getElem?_append_left (List.getElem?_eq_some_iff.1 q1).1]; exact q1, q2⟩
        · rw [i8] at hj
          have hjl : j < st'.length := by
            refine Decidable.byContradiction fun q => ?_
            rw [List.getElem?_append_right (by omega)] at hj
            have : j - st'.length = 0 ∨ j - st'.length = 1 ∨ 2 ≤ j - st'.length := by omega
            rcases this with q | q | q
            · rw [q] at hj; cases hj
            · rw [q] at hj; cases hj
            · rw [List.getElem?_eq_none (by simpa using q)] at hj; cases hj
          rw [List.getElem?_append_left hjl] at hj
          obtain ⟨v, q1, q2⟩ := i11 j hj
          exact ⟨v, by dsimp only [Cx.O]; rw [List.getElem?_append_left (List.getElem?_eq_some_iff.1 q1).1]; exact q1, q2⟩
        · refine a4.mono (fun _ _ _ h => h) (Nat.le_refl _) fun q hq => ?_
          obtain ⟨f2, hf2, cl2, p2, B2, s, h1, h2, h3, h4, h5, h6⟩ := hq
          rw [i1] at hf2
          rcases List.mem_append.1 hf2 with hf2 | hf2
          · exact .inr ⟨f2, hf2, cl2, p2, B2, s, h1, h2, h3, h4, h5, h6⟩
          · rw [List.mem_singleton] at hf2
            subst hf2
            rw [i3] at h1
            injection h1 with h1
            subst h1
            rw [i4] at h2
            injection h2 with h2
            subst h2
            refine .inl ⟨s, ?_, h5, by rw [h6]; dsimp only; omega⟩
            rw [i7.1, Int.toNat_natCast] at h4
            exact h4
        · dsimp only at hv
          rcases List.mem_append.1 hv with hv | hv
          · exact hE.vv (a5 v hv)
          · simp only [List.mem_cons, List.not_mem_nil, or_false] at hv
            rcases hv with rfl | rfl
            · exact hE.vv ha
            · exact hE.vv hb
      · dsimp only at hu
        rw [setTh_ne hu] at h2
        exact (h.all u t2 h2).eqs h.mi.ok hE
    · unfold mu
      dsimp only
      rw [← i1]
      show m.vs.fuel.toNat * 1000000 + _ ≤ _
      omega
  · omega
/-- A run of a thread. -/
theorem execM_ok (h : MW g PT m) {th : Nat} {t : Th} (ht : m.vs.threads[th]? = some t) (hs : t.st = 1 ∨ t.st = 2 ∨ t.st = 3) {a b : V} (ha : VVm m a) (hb : VVm m b) {n k : Nat} (hn : m.vs.fuel.toNat * 1000000 + 600000 < n) (hk : m.vs.fuel.toNat * 1000000 + 600000 < k) :
    ∃ e m', execM th a b n k m = some (e, m') ∧ XOk g PT th m e m' := by
  have hth := (List.getElem?_eq_some_iff.1 ht).1
  have h1 := h.mi.tn
  have h2 := h.mi.cn
  have h3 := h.mi.hn
  have hfu := h.mi.fu
  have hgo : ∀ {m1 : VM} {t1 : Th} {c : Cx}, m1.vs.threads[th]? = some t1 → c.g = g → c.PT = PT → c.th = th → Run c (setTh m1 th { t1 with st := 4 }) → mu c (setTh m1 th { t1 with st := 4 }) ≤ m.vs.fuel.toNat * 1000000 + 600000 → m1.vs.fuel = m.vs.fuel → ∃ e m', execS th n k m1 = some (e, m') ∧ XOk g PT th m e m' := fun {m1 t1 c} q1 q2 q3 q4 q5 q6 q7 => by
    have hf2 : (setTh m1 th { t1 with st := 4 }).vs.fuel = m.vs.fuel := q7
    obtain ⟨e, m', g1, g2⟩ := exec_ok n k q5 (by unfold FB; rw [hf2]; exact hfu) (by omega) (by omega)
    rw [q4] at g1
    rw [q2, q3, q4] at g2
    refine ⟨e, m', ?_, ?_⟩
    · unfold execS getT
      rw [q1, bind1_some]
      exact g1
    · rcases g2 with ⟨y1, y2⟩ | y
      · exact .inl ⟨y1, fun q => by have := y2 q; omega⟩
      · exact .inr y
  unfold execM getT
  rw [if_neg (fun q => q h.mi.en), if_neg (by omega), valid_ok ha (by omega) (by omega) (by omega), bind1_some, valid_ok hb (by omega) (by omega) (by omega), bind1_some, if_pos rfl, if_pos rfl, ht, bind1_some]
  by_cases s1 : t.st = 1
  · rw [if_pos s1]
    obtain ⟨m1, t1, c, q0, q1, q2, q3, q4, q5, q6, q7⟩ := h.start ht s1 ha
    rw [q0, bind1_some]
    exact hgo q1 q2 q3 q4 q5 q6 q7
  rw [if_neg s1]
  obtain ⟨m1, t1, c, q0, q1, q2, q3, q4, q5, q6, q7⟩ := h.wake ht (by omega) ha hb
  by_cases s2 : t.st = 2
  · rw [if_pos s2, q0, bind1_some]
    exact hgo q1 q2 q3 q4 q5 q6 q7
  · rw [if_neg s2, if_pos (by omega), q0, bind1_some]
    exact hgo q1 q2 q3 q4 q5 q6 q7
end
end Go.Wl
