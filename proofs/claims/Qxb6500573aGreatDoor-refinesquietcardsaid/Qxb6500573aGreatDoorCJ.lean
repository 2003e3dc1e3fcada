/- Plain: one step of the machine. -/
import Derived.Test.Qxb6500573aGreatDoorCI
namespace Go.Wl
open Go Go.Sl Go.Proofs
set_option linter.unusedVariables false
/-- The thread th has handed the run back. -/
structure EvOk (g : Pg) (PT : Nat → Nat → Ty) (th : Nat) (e : Ev) (m : VM) : Prop where
  mw : MW g PT m
  va : VVm m e.a
  kd : (e.k = 1 ∨ e.k = 2) ∨ e.k = 3 ∨ (e.k = 4 ∧ (0 ≤ e.co ∧ e.co < m.vs.threads.length) ∧ e.co ≠ (th : Int) ∧ ∃ t, m.vs.threads[e.co.toNat]? = some t ∧ (t.st = 1 ∨ t.st = 2))
  st : ∃ t, m.vs.threads[th]? = some t ∧ (e.k = 4 → t.st = 3) ∧ (e.k = 3 → t.st = 2) ∧ ((e.k = 1 ∨ e.k = 2) → t.st = 5)
  nz : e.k = 3 → th ≠ 0
/-- What a call leaves. -/
def COk (c : Cx) (F : Int) : Out Ev → Prop
  | .ok e m => (e = ev0 ∧ ∃ c', c'.g = c.g ∧ c'.PT = c.PT ∧ c'.th = c.th ∧ Run c' m ∧ m.vs.fuel = F ∧ ((c'.fs ++ [c'.f]).map wF).sum ≤ ((c.fs ++ [c.f]).map wF).sum + 65537) ∨ (EvOk c.g c.PT c.th e m ∧ m.vs.fuel = F)
  | .thr v m => (∃ ty, RunT c m ty) ∧ VVm m v
  | .trp e m => TrpO e m
def CTot (c : Cx) (F : Int) (x : Option (Out Ev)) : Prop := ∃ o, x = some o ∧ COk c F o
section
variable {c : Cx} {m : VM} {F : Int}
theorem CTot.bind {α : Type} {x : Option (Out α)} {k : α → VM → Option (Out Ev)} {P : α → VM → Prop} (h : Tot c x P) (hk : ∀ a m, P a m → CTot c F (k a m)) : CTot c F (bindO x k) := by
  obtain ⟨o, rfl, ho⟩ := h
  cases o with
  | ok a m => exact hk a m ho
  | thr v m => exact ⟨_, rfl, ho⟩
  | trp e m => exact ⟨_, rfl, ho⟩
theorem CTot.thr {v : V} {ty : Ty} (h : RunT c m ty) (hv : VVm m v) : CTot c F (some (.thr v m)) := ⟨_, rfl, ⟨ty, h⟩, hv⟩
/-- The two results lie there. -/
theorem fin_ok {st l : List Bool} {z : List Nat} (h : RunT c m ⟨st ++ l, z⟩) (hs : st.length ≤ 900) {pc : Nat} (hpc : c.f.pc = (pc : Nat) ∧ (pc : Int) < c.p.ncode) (hle : Ty.le ⟨st ++ [false, false], z⟩ (c.PT c.cl.p.toNat pc)) (hf : m.vs.fuel = F) {p : V × V} (h1 : VVm m p.1) (h2 : VVm m p.2) : CTot c F (finM c.th (c.O + st.length) p m) := by
  obtain ⟨m', g1, g2, g3⟩ := h.fin hs h1 h2
  refine ⟨_, g1, .inl ⟨rfl, c, rfl, rfl, rfl, ⟨pc, hpc.1, hpc.2, g2.weaken hle (h.prOk.st pc hpc.2).2⟩, by rw [g3.fuel, hf], by omega⟩⟩
abbrev BP (c : Cx) (F : Int) (ty : Ty) (p : V × V) (m : VM) : Prop := RunT c m ty ∧ VVm m p.1 ∧ VVm m p.2 ∧ m.vs.fuel = F
theorem bPrint_ok {ty : Ty} (h : RunT c m ty) (hf : m.vs.fuel = F) {a : V} (ha : VVm m a) : Tot c (bPrintM a m) (BP c F ty) := by
  obtain ⟨t, h1, h2⟩ := text_ok ha
  have ho := h.mi.ou
  unfold bPrintM
  rw [h1, bind1_some, if_pos (by omega)]
  by_cases q : 200 < (m.vs.out.length : Int) + t.length + 1
  · rw [if_pos q]; exact Tot.trp h (.inr (.inr rfl))
  · rw [if_neg q]
    exact Tot.ok ⟨h.outp (by simp; omega), VV.nil, VV.nil, hf⟩
theorem bStr_ok {ty : Ty} (h : RunT c m ty) (hf : m.vs.fuel = F) {a : V} (ha : VVm m a) : Tot c (bStrM a m) (BP c F ty) := by
  obtain ⟨t, h1, h2⟩ := text_ok ha
  unfold bStrM
  rw [h1, bind1_some]
  exact Tot.ok ⟨h, VV.str h2, VV.nil, hf⟩
theorem bNum_ok {ty : Ty} (h : RunT c m ty) (hf : m.vs.fuel = F) {a : V} (ha : VVm m a) : Tot c (bNumM a m) (BP c F ty) := by
  unfold bNumM
  by_cases h2 : a.t = 2
  · rw [if_pos h2]; exact Tot.ok ⟨h, ha, VV.nil, hf⟩
  rw [if_neg h2]
  by_cases h3 : a.t = 3
  · rw [if_pos h3]
    have hl : a.s.length ≤ 40 := by
      have := ha.wl
      unfold well at this
      rw [if_pos h3] at this
      exact (of_decide_eq_true this).2
    obtain ⟨f, e, h4, _, h5⟩ := parse_all a.s
    rw [if_pos (by omega), h4, bind2_some]
    by_cases he : e = 0
    · rw [if_pos he]; exact Tot.ok ⟨h, VV.numb (h5 he), VV.nil, hf⟩
    · rw [if_neg he]; exact Tot.ok ⟨h, VV.nil, VV.nil, hf⟩
  · rw [if_neg h3]; exact Tot.ok ⟨h, VV.nil, VV.nil, hf⟩
theorem bNext_ok {ty : Ty} (h : RunT c m ty) (hf : m.vs.fuel = F) {a k : V} (ha : VVm m a) (hk : VVm m k) : Tot c (bNextM a k m) (BP c F ty) := by
  unfold bNextM
  refine (h.tabOf ha (by decide)).bind fun i m' hi => ?_
  obtain ⟨rfl, i1, i2, _⟩ := hi
  have htn := h.mi.tn
  obtain ⟨r, r1, r2, r3⟩ := nextM_ok h.mi.tb ⟨i1, i2⟩ hk
  rw [if_pos ⟨i1, i2, by omega, hk.nn⟩, r1, bind1_some]
  by_cases q : r.2.2 ≠ 0
  · rw [if_pos q]; exact Tot.thr h (VV.str (by decide))
  · rw [if_neg q]; exact Tot.ok ⟨h, r2, r3, hf⟩
theorem bCreate_ok {ty : Ty} (h : RunT c m ty) (hf : m.vs.fuel = F) {a : V} (ha : VVm m a) : Tot c (bCreateM a m) (BP c F ty) := by
  have hn := h.mi.hn
  have hcn := h.mi.cn
  unfold bCreateM
  by_cases h5 : a.t ≠ 5
  · rw [if_pos h5]; exact Tot.thr h (VV.str (by decide))
  rw [if_neg h5]
  by_cases h6 : 5 ≤ (m.vs.threads.length : Int)
  · rw [if_pos h6]; exact Tot.trp h (.inl rfl)
  rw [if_neg h6]
  have hc := ha.clo (Decidable.not_not.1 h5)
  have hnn := ha.nn
  rw [if_pos (by omega)]
  unfold spawnM
  rw [if_pos (by omega), bind2_some]
  exact Tot.ok ⟨h.spawn (by omega) ⟨hnn, hc⟩, VV.thrd (by simp) (by omega), VV.nil, hf⟩
theorem stname_le (n : Int) : (statusName n).length ≤ 12 := by
  unfold statusName
  repeat' split
  all_goals decide
theorem bStatus_ok {ty : Ty} (h : RunT c m ty) (hf : m.vs.fuel = F) {a : V} (ha : VVm m a) : Tot c (bStatusM a m) (BP c F ty) := by
  have hn := h.mi.hn
  unfold bStatusM
  by_cases h5 : a.t ≠ 7
  · rw [if_pos h5]; exact Tot.thr h (VV.str (by decide))
  rw [if_neg h5]
  have hc := ha.thr (Decidable.not_not.1 h5)
  have hnn := ha.nn
  have hi : a.n.toNat < m.vs.threads.length := by omega
  rw [getI_mk (by omega) (List.getElem?_eq_getElem hi), bind1_some]
  exact Tot.ok ⟨h, VV.str (by have := stname_le m.vs.threads[a.n.toNat].st; omega), VV.nil, hf⟩
theorem callB_ok {st l : List Bool} {z : List Nat} (h : RunT c m ⟨st ++ l, z⟩) (hs : st.length ≤ 900) (hl : 1 ≤ l.length ∧ l.length ≤ 4) (h128 : st.length + l.length ≤ 128) {pc : Nat} (hpc : c.f.pc = (pc : Nat) ∧ (pc : Int) < c.p.ncode) (hle : Ty.le ⟨st ++ [false, false], z⟩ (c.PT c.cl.p.toNat pc)) (hf : m.vs.fuel = F) (k : Int) {a b : V} (ha : VVm m a) (hb : VVm m b) : CTot c F (callB c.th (c.O + st.length) k a b m) := by
  obtain ⟨t, ht, hR⟩ := h.run
  obtain ⟨a1, a2, a3, a4, a5, a6⟩ := h.cutTop ht
  have hfr : t.frames.length = c.fs.length + 1 := by rw [hR.fr]; simp
  have hcn := h.mi.cn
  have hhn := h.mi.hn
  have hfin : ∀ (p : V × V) (m' : VM), BP c F ⟨st ++ l, z⟩ p m' → CTot c F (finM c.th (c.O + st.length) p m') := fun p m' hp => fin_ok hp.1 hs hpc hle hp.2.2.2 hp.2.1 hp.2.2.1
  unfold callB
  by_cases k6 : k = 6
  · rw [if_pos k6]
    unfold cPcall getT
    rw [ht, bind1_some]
    by_cases h5 : a.t = 5
    · rw [if_pos h5]
      by_cases h8 : (t.frames.length : Int) < 8
      · have hc := ha.clo h5
        have hnn := ha.nn
        rw [if_pos h8, if_pos (by omega)]
        obtain ⟨m', c', e1, e2, e3, e4, e5, e6, e7, e8⟩ := h.enter hpc hle hl h128 (by omega) ⟨hnn, hc⟩ (args := [b]) (fun v hv => by rw [List.mem_singleton] at hv; subst hv; exact hb) true
        rw [e1]
        refine ⟨_, rfl, .inl ⟨rfl, c', e2, e3, e4, e7, by rw [e8, hf], ?_⟩⟩
        rw [e5]
        simp only [List.map_append, List.sum_append, List.map_cons, List.map_nil, List.sum_cons, List.sum_nil]
        have : wF c'.f ≤ 65537 := by unfold wF; omega
        omega
      · rw [if_neg h8]; exact fin_ok h hs hpc hle hf (VV.bool false) (VV.str (by decide))
    · rw [if_neg h5]; exact fin_ok h hs hpc hle hf (VV.bool false) (VV.str (by decide))
  rw [if_neg k6]
  by_cases k9 : k = 9
  · rw [if_pos k9]
    unfold cResume
    by_cases h7 : a.t ≠ 7
    · rw [if_pos h7]; exact CTot.thr h (VV.str (by decide))
    rw [if_neg h7]
    have hc := ha.thr (Decidable.not_not.1 h7)
    have hnn := ha.nn
    have hi : a.n.toNat < m.vs.threads.length := by omega
    rw [getI_mk (by omega) (List.getElem?_eq_getElem hi), bind1_some]
    by_cases hst : m.vs.threads[a.n.toNat].st = 1 ∨ m.vs.threads[a.n.toNat].st = 2
    · rw [if_pos hst]
      unfold getT
      rw [ht, bind1_some, if_pos (by omega)]
      have hne : a.n.toNat ≠ c.th := fun q => by
        rw [← q, List.getElem?_eq_getElem hi] at ht
        injection ht with ht
        rw [ht, hR.st] at hst
        omega
      have hE := Eqs.set m c.th { t with st := 3, stack := t.stack.take (c.O + st.length) }
      refine ⟨_, rfl, .inr ⟨⟨h.park hpc hle ht (.inr rfl), hE.vv hb, .inr (.inr ⟨rfl, ⟨hnn, by rw [hE.nth]; exact hc⟩, by dsimp only; omega, ⟨m.vs.threads[a.n.toNat], by rw [setTh_ne hne]; exact List.getElem?_eq_getElem hi, hst⟩⟩), ⟨_, setTh_at ht, fun _ => rfl, fun q => ?_, fun q => ?_⟩, fun q => by dsimp only at q; omega⟩, hf⟩⟩
      · dsimp only at q; omega
      · dsimp only at q; omega
    · rw [if_neg hst]
      exact fin_ok h hs hpc hle hf (VV.bool false) (VV.str (by have := stname_le m.vs.threads[a.n.toNat].st; omega))
  rw [if_neg k9]
  by_cases k10 : k = 10
  · rw [if_pos k10]
    unfold cYield
    by_cases h0 : (c.th : Int) = 0
    · rw [if_pos h0]; exact CTot.thr h (VV.str (by decide))
    rw [if_neg h0]
    unfold getT
    rw [ht, bind1_some, if_pos (by omega)]
    have hE := Eqs.set m c.th { t with st := 2, stack := t.stack.take (c.O + st.length) }
    refine ⟨_, rfl, .inr ⟨⟨h.park hpc hle ht (.inl rfl), hE.vv ha, .inr (.inl rfl), ⟨_, setTh_at ht, fun q => ?_, fun _ => rfl, fun q => ?_⟩, fun _ => by omega⟩, hf⟩⟩
    · dsimp only at q; omega
    · dsimp only at q; omega
  rw [if_neg k10]
  by_cases k1 : k = 1
  · rw [if_pos k1]; exact CTot.bind (bPrint_ok h hf ha) hfin
  rw [if_neg k1]
  by_cases k2 : k = 2
  · rw [if_pos k2]; exact CTot.bind (bStr_ok h hf ha) hfin
  rw [if_neg k2]
  by_cases k3 : k = 3
  · rw [if_pos k3]; exact CTot.bind (bNum_ok h hf ha) hfin
  rw [if_neg k3]
  by_cases k4 : k = 4
  · rw [if_pos k4]
    refine CTot.bind (P := BP c F ⟨st ++ l, z⟩) ?_ hfin
    unfold bTypeM
    exact Tot.ok ⟨h, VV.str (by have := tname12 a.t; omega), VV.nil, hf⟩
  rw [if_neg k4]
  by_cases k5 : k = 5
  · rw [if_pos k5]
    refine CTot.bind (P := BP c F ⟨st ++ l, z⟩) ?_ hfin
    unfold bErrorM
    exact Tot.thr h ha
  rw [if_neg k5]
  by_cases k7 : k = 7
  · rw [if_pos k7]; exact CTot.bind (bNext_ok h hf ha hb) hfin
  rw [if_neg k7]
  by_cases k8 : k = 8
  · rw [if_pos k8]; exact CTot.bind (bCreate_ok h hf ha) hfin
  rw [if_neg k8]
  by_cases k11 : k = 11
  · rw [if_pos k11]; exact CTot.bind (bStatus_ok h hf ha) hfin
  rw [if_neg k11]
  exact CTot.thr h (VV.str (by decide))
theorem callF_ok {st l : List Bool} {z : List Nat} (h : RunT c m ⟨st ++ l, z⟩) (hs : st.length ≤ 900) (hl : 1 ≤ l.length ∧ l.length ≤ 4) (h128 : st.length + l.length ≤ 128) {pc : Nat} (hpc : c.f.pc = (pc : Nat) ∧ (pc : Int) < c.p.ncode) (hle : Ty.le ⟨st ++ [false, false], z⟩ (c.PT c.cl.p.toNat pc)) (hf : m.vs.fuel = F) {f : V} (hfv : VVm m f) {args : List V} (ha : ∀ v, v ∈ args → VVm m v) : CTot c F (callF c.th (c.O + st.length) f args m) := by
  obtain ⟨t, ht, hR⟩ := h.run
  have hfr : t.frames.length = c.fs.length + 1 := by rw [hR.fr]; simp
  have hcn := h.mi.cn
  have hgd : ∀ i, VVm m (args.getD i V.nil) := fun i => by
    rw [List.getD_eq_getElem?_getD]
    by_cases hi : i < args.length
    · rw [List.getElem?_eq_getElem hi]; exact ha _ (List.getElem_mem hi)
    · rw [List.getElem?_eq_none (by omega)]; exact VV.nil
  unfold callF
  by_cases h5 : f.t = 5
  · rw [if_pos h5]
    unfold getT
    rw [ht, bind1_some]
    by_cases h8 : 8 ≤ (t.frames.length : Int)
    · rw [if_pos h8]; exact CTot.thr h (VV.str (by decide))
    · have hc := hfv.clo h5
      have hnn := hfv.nn
      rw [if_neg h8, if_pos (by omega)]
      obtain ⟨m', c', e1, e2, e3, e4, e5, e6, e7, e8⟩ := h.enter hpc hle hl h128 (by omega) ⟨hnn, hc⟩ ha false
      rw [e1]
      refine ⟨_, rfl, .inl ⟨rfl, c', e2, e3, e4, e7, by rw [e8, hf], ?_⟩⟩
      rw [e5]
      simp only [List.map_append, List.sum_append, List.map_cons, List.map_nil, List.sum_cons, List.sum_nil]
      have : wF c'.f ≤ 65537 := by unfold wF; omega
      omega
  · rw [if_neg h5]
    by_cases h6 : f.t ≠ 6
    · rw [if_pos h6]; exact CTot.thr h (VV.str (by decide))
    · rw [if_neg h6]
      exact callB_ok h hs hl h128 hpc hle hf f.n (hgd 0) (hgd 1)
/-- What a step leaves. -/
def SOk (c : Cx) (m0 : VM) : Out Ev → Prop
  | .ok e m => (e = ev0 ∧ ∃ c', c'.g = c.g ∧ c'.PT = c.PT ∧ c'.th = c.th ∧ Run c' m ∧ mu c' m < mu c m0) ∨ (EvOk c.g c.PT c.th e m ∧ (e.k = 4 → m.vs.fuel < m0.vs.fuel))
  | .thr v m => ∃ c' ty, c'.g = c.g ∧ c'.PT = c.PT ∧ c'.th = c.th ∧ RunT c' m ty ∧ VVm m v ∧ c'.fs = c.fs ∧ c.f.pc ≤ c'.f.pc ∧ c'.f.pc ≤ 65536
  | .trp e m => TrpO e m
end
end Go.Wl
