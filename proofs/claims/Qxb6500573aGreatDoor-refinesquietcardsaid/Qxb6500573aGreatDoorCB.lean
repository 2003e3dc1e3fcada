/- Plain: the running thread: stack, fuel, place. -/
import Derived.Test.Qxb6500573aGreatDoorCA
namespace Go.Wl
open Go Go.Sl Go.Proofs
set_option linter.unusedVariables false
theorem bind1_some {α γ : Type} (a : α) (f : α → Option γ) : bind1 (some a) f = f a := rfl
theorem bind2_some {α β γ : Type} (a : α) (b : β) (f : α → β → Option γ) : bind2 (some (a, b)) f = f a b := rfl
section
variable {m : VM} {th : Nat} {t t' : Th}
theorem setTh_len : (setTh m th t').vs.threads.length = m.vs.threads.length := by simp [setTh]
theorem setTh_at (h : m.vs.threads[th]? = some t) : (setTh m th t').vs.threads[th]? = some t' := by
  have := (List.getElem?_eq_some_iff.1 h).1
  unfold setTh
  dsimp only
  rw [List.getElem?_set_self this]
theorem setTh_ne {u : Nat} (h : u ≠ th) : (setTh m th t').vs.threads[u]? = m.vs.threads[u]? := by
  unfold setTh
  dsimp only
  rw [List.getElem?_set_ne (Ne.symm h)]
end
/-- The machine's parts but the threads' insides. -/
structure Eqs (m m' : VM) : Prop where
  pg : m'.pg = m.pg
  tabs : m'.vs.tabs = m.vs.tabs
  clos : m'.vs.clos = m.vs.clos
  upix : m'.vs.upix = m.vs.upix
  cells : m'.vs.cells = m.vs.cells
  nth : m'.vs.threads.length = m.vs.threads.length
  fuel : m'.vs.fuel = m.vs.fuel
  out : m'.vs.out = m.vs.out
  ended : m'.ended = m.ended
theorem Eqs.refl (m : VM) : Eqs m m := ⟨rfl, rfl, rfl, rfl, rfl, rfl, rfl, rfl, rfl⟩
theorem Eqs.trans {a b c : VM} (h1 : Eqs a b) (h2 : Eqs b c) : Eqs a c := ⟨h2.pg.trans h1.pg, h2.tabs.trans h1.tabs, h2.clos.trans h1.clos, h2.upix.trans h1.upix, h2.cells.trans h1.cells, h2.nth.trans h1.nth, h2.fuel.trans h1.fuel, h2.out.trans h1.out, h2.ended.trans h1.ended⟩
theorem Eqs.set (m : VM) (th : Nat) (t : Th) : Eqs m (setTh m th t) := ⟨rfl, rfl, rfl, rfl, rfl, setTh_len, rfl, rfl, rfl⟩
theorem Eqs.vv {m m' : VM} (h : Eqs m m') {v : V} (hv : VVm m v) : VVm m' v := by
  unfold VVm
  rw [h.tabs, h.clos, h.nth]
  exact hv
theorem OpnOk.mono {cells cells2 : List Ce} {u : Nat} {opn : List Int} {Z Z2 : Int → Prop} (h : OpnOk cells u opn Z) (hc : ∀ j e, j ∈ opn → getI cells j = some e → getI cells2 j = some e) (hl : cells.length ≤ cells2.length) (hz : ∀ q, Z q → Z2 q) : OpnOk cells2 u opn Z2 := by
  refine ⟨fun j hj => ?_, ?_, Nat.le_trans h.len hl⟩
  · obtain ⟨e, h1, h2, h3⟩ := h.at_ j hj
    exact ⟨e, hc j e hj h1, h2, hz _ h3⟩
  · refine h.up.imp_of_mem fun {i j} hi hj hij a b ha hb => ?_
    obtain ⟨e1, g1, _⟩ := h.at_ i hi
    obtain ⟨e2, g2, _⟩ := h.at_ j hj
    have q1 := hc i e1 hi g1
    have q2 := hc j e2 hj g2
    rw [ha] at q1
    rw [hb] at q2
    injection q1 with q1
    injection q2 with q2
    subst q1 q2
    exact hij _ _ g1 g2
theorem ThW.mono {g : Pg} {PT : Nat → Nat → Ty} {m m2 : VM} {u : Nat} {t : Th} (hok : PgOk g PT) (h : ThW g PT m u t) (h1 : m.vs.tabs.length ≤ m2.vs.tabs.length) (h2 : m.vs.clos.length ≤ m2.vs.clos.length) (h3 : m.vs.threads.length ≤ m2.vs.threads.length)
    (hcl : ∀ i x, getI m.vs.clos i = some x → getI m2.vs.clos i = some x) (hce : ∀ j e, j ∈ t.opn → getI m.vs.cells j = some e → getI m2.vs.cells j = some e) (hl : m.vs.cells.length ≤ m2.vs.cells.length) : ThW g PT m2 u t := by
  rcases h with ⟨a1, a2, a3, a4, a5, a6⟩ | ⟨a1, a2, a3, a4, a5⟩ | h
  · exact .inl ⟨a1, a2, a3, a4, a5, by omega⟩
  · exact .inr (.inl ⟨a1, a2, a3.congr hok rfl hcl (Nat.le_refl _), a4.mono hce hl fun q hq => hq.mono hcl, fun v hv => (a5 v hv).mono h1 h2 h3⟩)
  · exact .inr (.inr h)
theorem ThW.eqs {g : Pg} {PT : Nat → Nat → Ty} {m m2 : VM} {u : Nat} {t : Th} (hok : PgOk g PT) (h : ThW g PT m u t) (he : Eqs m m2) : ThW g PT m2 u t :=
  h.mono hok (by rw [he.tabs]; exact Nat.le_refl _) (by rw [he.clos]; exact Nat.le_refl _) (by rw [he.nth]; exact Nat.le_refl _) (by rw [he.clos]; exact fun _ _ h => h) (by rw [he.cells]; exact fun _ _ _ h => h) (by rw [he.cells]; exact Nat.le_refl _)
theorem MI.set {g : Pg} {PT : Nat → Nat → Ty} {m : VM} {th : Nat} {t t' : Th} (h : MI g PT m) (ht : m.vs.threads[th]? = some t) (ho : t'.opn = t.opn) (hf : t'.fn = t.fn) : MI g PT (setTh m th t') := by
  have hl : (setTh m th t').vs.threads.length = m.vs.threads.length := setTh_len
  refine ⟨h.ok, h.pg, ?_, h.tn, h.cn, h.cl, h.ux, h.ul, fun j e he => ?_, by rw [hl]; exact h.hn, h.fu, h.ou, h.en, h.cx, h.ct, fun u t2 h2 => ?_⟩
  · rw [hl]; exact h.tb
  · obtain ⟨h1, h2⟩ := h.ce j e he
    refine ⟨fun h0 => ?_, fun h0 => (Eqs.set m th t').vv (h2 h0)⟩
    obtain ⟨t1, g1, g2⟩ := h1 h0
    by_cases hq : e.th.toNat = th
    · rw [hq] at g1 ⊢
      rw [ht] at g1
      injection g1 with g1
      subst g1
      exact ⟨t', setTh_at ht, by rw [ho]; exact g2⟩
    · exact ⟨t1, by rw [setTh_ne hq]; exact g1, g2⟩
  · by_cases hu : u = th
    · subst hu
      rw [setTh_at ht] at h2
      injection h2 with h2
      subst h2
      rw [hf]
      exact h.fn u t ht
    · rw [setTh_ne hu] at h2
      exact h.fn u t2 h2
section
variable {c : Cx} {m : VM} {ty : Ty}
theorem RunT.prOk (h : RunT c m ty) : PrOk c.g c.p (c.PT c.cl.p.toNat) := by
  obtain ⟨t, _, hR⟩ := h.run
  obtain ⟨_, _, _, hi, hx⟩ := getI_some hR.pr
  exact h.mi.ok.pr _ _ (List.getElem?_eq_some_iff.2 ⟨hi, hx⟩)
theorem RunT.small (h : RunT c m ty) {t : Th} (ht : m.vs.threads[c.th]? = some t) : t.stack.length ≤ 2300 ∧ c.B ≤ 1300 ∧ c.O ≤ 1312 ∧ c.B ≤ c.O ∧ c.O ≤ t.stack.length ∧ c.p.nslots ≤ 12 ∧ 0 ≤ c.p.nslots := by
  obtain ⟨t', ht', hR⟩ := h.run
  rw [ht] at ht'
  injection ht' with ht'
  subst ht'
  have h1 := hR.ch.bound h.mi.ok
  have h2 := hR.fl
  have h3 := hR.rt
  have h4 := h.prOk.np
  have h5 := hR.sl
  have h6 := hR.sz
  unfold Cx.O at *
  omega
/-- Another stack. -/
theorem RunT.stk (h : RunT c m ty) {t : Th} (ht : m.vs.threads[c.th]? = some t) {S : List V} {ty' : Ty} (hl : S.length = c.O + ty'.st.length) (hlow : t.stack.take c.B = S.take c.B) (hv : ∀ v, v ∈ S → VVm m v) (hs : NumS S c.B ty'.z) (ho : NumO S c.O ty'.st)
    (hz : ∀ s : Nat, ty.z[s]? = some 0 → ty'.z[s]? = some 0) (hsz : ty'.st.length ≤ 1000) (hzl : ty'.z.length ≤ c.p.nslots.toNat) : RunT c (setTh m c.th { t with stack := S }) ty' := by
  obtain ⟨t', ht', hR⟩ := h.run
  rw [ht] at ht'
  injection ht' with ht'
  subst ht'
  have hE := Eqs.set m c.th { t with stack := S }
  have hsm := h.small ht
  refine ⟨h.mi.set ht rfl rfl, ⟨_, setTh_at ht, ?_⟩, fun u t2 hu h2 => ?_⟩
  · have hrt := hR.rt
    refine ⟨hR.st, hR.fr, hR.fl, hl, hR.ch.congr h.mi.ok ?_ (fun _ _ h => h) (by dsimp only; omega), hR.cl, hR.pr, hR.b, hR.rt, hsz, hzl, hs, ho, ?_, fun v hv' => hE.vv (hv v hv')⟩
    · have hrl : c.f.ret.toNat ≤ c.B := by omega
      have := congrArg (List.take c.f.ret.toNat) hlow
      rwa [List.take_take, List.take_take, Nat.min_eq_left hrl] at this
    · refine hR.op.mono (fun _ _ _ h => h) (Nat.le_refl _) fun q hq => ?_
      rcases hq with ⟨s, q1, q2, q3⟩ | hq
      · exact .inl ⟨s, hz s q1, q2, q3⟩
      · exact .inr hq
  · rw [setTh_ne hu] at h2
    exact (h.oth u t2 hu h2).eqs h.mi.ok hE
/-- Less is known. -/
theorem RunT.weaken (h : RunT c m ty) {ty' : Ty} (hle : ty.le ty') (hzl : ty'.z.length ≤ c.p.nslots.toNat) : RunT c m ty' := by
  obtain ⟨t, ht, hR⟩ := h.run
  refine ⟨h.mi, ⟨t, ht, ?_⟩, h.oth⟩
  obtain ⟨⟨l1, l2⟩, l3, l4⟩ := hle
  refine ⟨hR.st, hR.fr, hR.fl, by rw [← l1]; exact hR.sl, hR.ch, hR.cl, hR.pr, hR.b, hR.rt, by rw [← l1]; exact hR.sz, hzl, fun s hs => hR.ns s (l4 s hs), fun j hj => hR.no j (l2 j hj), ?_, hR.vv⟩
  refine hR.op.mono (fun _ _ _ h => h) (Nat.le_refl _) fun q hq => ?_
  rcases hq with ⟨s, q1, q2, q3⟩ | hq
  · exact .inl ⟨s, l3 s q1, q2, q3⟩
  · exact .inr hq
theorem RunT.push (h : RunT c m ty) {v : V} (hv : VVm m v) {b : Bool} (hb : b = true → v.t = 2) (hsz : ty.st.length ≤ 900) : ∃ m', pushM c.th [v] m = some m' ∧ RunT c m' ⟨ty.st ++ [b], ty.z⟩ ∧ Eqs m m' := by
  obtain ⟨t, ht, hR⟩ := h.run
  have hsm := h.small ht
  refine ⟨setTh m c.th { t with stack := t.stack ++ [v] }, ?_, ?_, Eqs.set _ _ _⟩
  · unfold pushM getT
    rw [ht]
    show (if t.stack.length + [v].length ≤ 1000000 then _ else _) = _
    rw [if_pos (by simp; omega)]
  · have hsl := hR.sl
    refine h.stk ht (by simp; omega) (by rw [List.take_append_of_le_length (by omega)]) (fun w hw => ?_) (fun s hs => ?_) (fun j hj => ?_) (fun s hs => hs) (by simp; omega) hR.zl
    · rcases List.mem_append.1 hw with hw | hw
      · exact hR.vv w hw
      · rw [List.mem_singleton] at hw; subst hw; exact hv
    · obtain ⟨w, h1, h2⟩ := hR.ns s hs
      exact ⟨w, by rw [List.getElem?_append_left (List.getElem?_eq_some_iff.1 h1).1]; exact h1, h2⟩
    · by_cases hj2 : j < ty.st.length
      · rw [List.getElem?_append_left hj2] at hj
        obtain ⟨w, h1, h2⟩ := hR.no j hj
        exact ⟨w, by rw [List.getElem?_append_left (List.getElem?_eq_some_iff.1 h1).1]; exact h1, h2⟩
      · have hjl := (List.getElem?_eq_some_iff.1 hj).1
        simp only [List.length_append, List.length_cons, List.length_nil] at hjl
        have : j = ty.st.length := by omega
        subst this
        rw [List.getElem?_append_right (Nat.le_refl _)] at hj
        simp at hj
        exact ⟨v, by rw [← hsl, List.getElem?_append_right (Nat.le_refl _)]; simp, hb hj⟩
theorem RunT.pop {st : List Bool} {b : Bool} {z : List Nat} (h : RunT c m ⟨st ++ [b], z⟩) : ∃ v m', popM c.th m = some (v, m') ∧ VVm m v ∧ (b = true → v.t = 2) ∧ RunT c m' ⟨st, z⟩ ∧ Eqs m m' := by
  obtain ⟨t, ht, hR⟩ := h.run
  have hsm := h.small ht
  have hsl := hR.sl
  simp only [List.length_append, List.length_cons, List.length_nil] at hsl
  have hi : t.stack.length - 1 < t.stack.length := by omega
  refine ⟨t.stack[t.stack.length - 1], setTh m c.th { t with stack := t.stack.take (t.stack.length - 1) }, ?_, hR.vv _ (List.getElem_mem hi), fun hb => ?_, ?_, Eqs.set _ _ _⟩
  · unfold popM getT
    rw [ht]
    show (if t.stack.length ≤ 1000000 then bind1 t.stack[t.stack.length - 1]? _ else none) = _
    rw [if_pos (by omega), List.getElem?_eq_getElem hi]
    rfl
  · obtain ⟨w, h1, h2⟩ := hR.no st.length (by simp [hb])
    rw [show c.O + st.length = t.stack.length - 1 from by omega, List.getElem?_eq_getElem hi] at h1
    injection h1 with h1
    rw [h1]; exact h2
  · have hsz := hR.sz
    simp only [List.length_append, List.length_cons, List.length_nil] at hsz
    have hO : c.B + c.p.nslots.toNat = c.O := rfl
    refine h.stk ht (by rw [List.length_take]; dsimp only; omega) (by rw [List.take_take, Nat.min_eq_left (by omega)]) (fun w hw => hR.vv w (List.mem_of_mem_take hw)) (fun s hs => ?_) (fun j hj => ?_) (fun s hs => hs) (by dsimp only; omega) hR.zl
    · obtain ⟨w, h1, h2⟩ := hR.ns s hs
      have hsl2 := (List.getElem?_eq_some_iff.1 hs).1
      have hz := hR.zl
      dsimp only at hz hsl2
      exact ⟨w, by rw [List.getElem?_take_of_lt (by omega)]; exact h1, h2⟩
    · have hjl := (List.getElem?_eq_some_iff.1 hj).1
      dsimp only at hjl
      obtain ⟨w, h1, h2⟩ := hR.no j (by rw [List.getElem?_append_left hjl]; exact hj)
      exact ⟨w, by rw [List.getElem?_take_of_lt (by omega)]; exact h1, h2⟩
/-- A slot. -/
theorem RunT.slot (h : RunT c m ty) {x : Int} (hx : 0 ≤ x ∧ x < c.p.nslots) : ∃ v, getS m c.th (slotI c.f x : Nat) = some v ∧ VVm m v ∧ (ty.z[x.toNat]? = some 2 → v.t = 2) := by
  obtain ⟨t, ht, hR⟩ := h.run
  have hsm := h.small ht
  have hsl := hR.sl
  have hO : c.B + c.p.nslots.toNat = c.O := rfl
  have hs : slotI c.f x = c.B + x.toNat := by unfold slotI; rw [hR.b]; omega
  have hi : c.B + x.toNat < t.stack.length := by omega
  refine ⟨t.stack[c.B + x.toNat], ?_, hR.vv _ (List.getElem_mem hi), fun hz => ?_⟩
  · have e : getI t.stack ((c.B + x.toNat : Nat) : Int) = some t.stack[c.B + x.toNat] := getI_nat (List.getElem?_eq_getElem hi) (by omega)
    unfold getS getT
    rw [ht, hs, bind1_some, e]
  · obtain ⟨w, h1, h2⟩ := hR.ns _ hz
    rw [List.getElem?_eq_getElem hi] at h1
    injection h1 with h1
    rw [h1]; exact h2
theorem RunT.setSlot (h : RunT c m ty) {x : Int} (hx : 0 ≤ x ∧ x < c.p.nslots) {v : V} (hv : VVm m v) (hz : ty.z[x.toNat]? = some 2 → v.t = 2) : ∃ m', setS c.th (slotI c.f x) v m = some m' ∧ RunT c m' ty ∧ Eqs m m' := by
  obtain ⟨t, ht, hR⟩ := h.run
  have hsm := h.small ht
  have hsl := hR.sl
  have hO : c.B + c.p.nslots.toNat = c.O := rfl
  have hs : slotI c.f x = c.B + x.toNat := by unfold slotI; rw [hR.b]; omega
  have hi : c.B + x.toNat < t.stack.length := by omega
  refine ⟨setTh m c.th { t with stack := t.stack.set (c.B + x.toNat) v }, ?_, ?_, Eqs.set _ _ _⟩
  · unfold setS getT
    rw [ht, hs]
    show (if c.B + x.toNat < t.stack.length then _ else _) = _
    rw [if_pos hi]
  · refine h.stk ht (by simp; omega) (by rw [List.take_set_of_le (by omega)]) (fun w hw => ?_) (fun s hs2 => ?_) (fun j hj => ?_) (fun s hs => hs) hR.sz hR.zl
    · rcases List.mem_or_eq_of_mem_set hw with hw | hw
      · exact hR.vv w hw
      · subst hw; exact hv
    · by_cases hse : s = x.toNat
      · subst hse
        exact ⟨v, by rw [List.getElem?_set_self hi], hz hs2⟩
      · rw [List.getElem?_set_ne (by omega)]; exact hR.ns s hs2
    · rw [List.getElem?_set_ne (by omega)]; exact hR.no j hj
/-- Other fuel, other output. -/
theorem RunT.fuel (h : RunT c m ty) {f : Int} (hf : 0 ≤ f ∧ f ≤ 9223372036854775807) : RunT c { m with vs := { m.vs with fuel := f } } ty := by
  obtain ⟨t, ht, hR⟩ := h.run
  exact ⟨⟨h.mi.ok, h.mi.pg, h.mi.tb, h.mi.tn, h.mi.cn, h.mi.cl, h.mi.ux, h.mi.ul, h.mi.ce, h.mi.hn, hf, h.mi.ou, h.mi.en, h.mi.cx, h.mi.ct, h.mi.fn⟩, ⟨t, ht, ⟨hR.st, hR.fr, hR.fl, hR.sl, hR.ch, hR.cl, hR.pr, hR.b, hR.rt, hR.sz, hR.zl, hR.ns, hR.no, hR.op, hR.vv⟩⟩, fun u t2 hu h2 => h.oth u t2 hu h2⟩
theorem RunT.outp (h : RunT c m ty) {o : List UInt8} (ho : o.length ≤ 200) : RunT c { m with vs := { m.vs with out := o } } ty := by
  obtain ⟨t, ht, hR⟩ := h.run
  exact ⟨⟨h.mi.ok, h.mi.pg, h.mi.tb, h.mi.tn, h.mi.cn, h.mi.cl, h.mi.ux, h.mi.ul, h.mi.ce, h.mi.hn, h.mi.fu, ho, h.mi.en, h.mi.cx, h.mi.ct, h.mi.fn⟩, ⟨t, ht, ⟨hR.st, hR.fr, hR.fl, hR.sl, hR.ch, hR.cl, hR.pr, hR.b, hR.rt, hR.sz, hR.zl, hR.ns, hR.no, hR.op, hR.vv⟩⟩, fun u t2 hu h2 => h.oth u t2 hu h2⟩
/-- Other tables, as many or more. -/
theorem RunT.tabs (h : RunT c m ty) {ts : List Tb} (hl : m.vs.tabs.length ≤ ts.length) (hl2 : ts.length ≤ 12) (ht2 : TsOk ts.length m.vs.clos.length m.vs.threads.length ts) : RunT c { m with vs := { m.vs with tabs := ts } } ty := by
  obtain ⟨t, ht, hR⟩ := h.run
  have hv : ∀ v, VVm m v → VVm { m with vs := { m.vs with tabs := ts } } v := fun v hv => hv.mono hl (Nat.le_refl _) (Nat.le_refl _)
  refine ⟨⟨h.mi.ok, h.mi.pg, ht2, ⟨by have := h.mi.tn; dsimp only; omega, hl2⟩, h.mi.cn, h.mi.cl, h.mi.ux, h.mi.ul, fun j e he => ⟨(h.mi.ce j e he).1, fun h0 => hv _ ((h.mi.ce j e he).2 h0)⟩, h.mi.hn, h.mi.fu, h.mi.ou, h.mi.en, h.mi.cx, h.mi.ct, h.mi.fn⟩, ⟨t, ht, ⟨hR.st, hR.fr, hR.fl, hR.sl, hR.ch, hR.cl, hR.pr, hR.b, hR.rt, hR.sz, hR.zl, hR.ns, hR.no, hR.op, fun v h2 => hv v (hR.vv v h2)⟩⟩, fun u t2 hu h2 => ?_⟩
  exact (h.oth u t2 hu h2).mono h.mi.ok hl (Nat.le_refl _) (Nat.le_refl _) (fun _ _ h => h) (fun _ _ _ h => h) (Nat.le_refl _)
/-- The frame at hand. -/
theorem RunT.frame (h : RunT c m ty) : getF m c.th c.fs.length = some c.f := by
  obtain ⟨t, ht, hR⟩ := h.run
  unfold getF getT
  rw [ht]
  show t.frames[c.fs.length]? = _
  rw [hR.fr, List.getElem?_append_right (Nat.le_refl _)]
  simp
def Cx.pc (c : Cx) (pc : Int) : Cx := { c with f := { c.f with pc := pc } }
theorem RunT.setPc (h : RunT c m ty) (pc : Int) : ∃ m', pcM c.th c.fs.length pc m = some m' ∧ RunT (c.pc pc) m' ty ∧ Eqs m m' := by
  obtain ⟨t, ht, hR⟩ := h.run
  have hset : t.frames.set c.fs.length { c.f with pc := pc } = c.fs ++ [{ c.f with pc := pc }] := by
    rw [hR.fr, List.set_append_right _ _ (Nat.le_refl _)]
    simp
  refine ⟨setTh m c.th { t with frames := t.frames.set c.fs.length { c.f with pc := pc } }, ?_, ?_, Eqs.set _ _ _⟩
  · unfold pcM
    rw [h.frame]
    show setF c.th c.fs.length { c.f with pc := pc } m = _
    unfold setF getT
    rw [ht]
    show (if c.fs.length < t.frames.length then _ else _) = _
    rw [if_pos (by rw [hR.fr]; simp)]
  · have hE := Eqs.set m c.th { t with frames := t.frames.set c.fs.length { c.f with pc := pc } }
    refine ⟨h.mi.set ht rfl rfl, ⟨_, setTh_at ht, ?_⟩, fun u t2 hu h2 => ?_⟩
    · exact ⟨hR.st, hset, hR.fl, hR.sl, hR.ch, hR.cl, hR.pr, hR.b, hR.rt, hR.sz, hR.zl, hR.ns, hR.no, hR.op, fun v hv => hE.vv (hR.vv v hv)⟩
    · have hu' : u ≠ c.th := hu
      rw [setTh_ne hu'] at h2
      exact (h.oth u t2 hu' h2).eqs h.mi.ok hE
theorem RunT.next (h : RunT c m ty) {pc : Nat} (hpc : c.f.pc = (pc : Nat)) (hl : pc ≤ 65535) : ∃ m', nextPc c.th c.fs.length m = some m' ∧ RunT (c.pc ((pc : Int) + 1)) m' ty ∧ Eqs m m' := by
  obtain ⟨m', h1, h2⟩ := h.setPc ((pc : Int) + 1)
  refine ⟨m', ?_, h2⟩
  unfold nextPc
  rw [h.frame]
  show (if 0 ≤ c.f.pc ∧ c.f.pc ≤ 1000000000 then pcM c.th c.fs.length (c.f.pc + 1) m else none) = _
  rw [if_pos (by omega), hpc, h1]
end
/-- What is left when the machine stops short. -/
def TrpO (e : Int) (m : VM) : Prop := (e = 8 ∨ e = 9 ∨ e = 10) ∧ m.vs.tabs.length ≤ 1000 ∧ m.vs.out.length ≤ 200 ∧ ∃ nt nc nh, TsOk nt nc nh m.vs.tabs
theorem TrpO.of {c : Cx} {m : VM} {ty : Ty} (h : RunT c m ty) {e : Int} (he : e = 8 ∨ e = 9 ∨ e = 10) : TrpO e m := ⟨he, by have := h.mi.tn; omega, h.mi.ou, _, _, _, h.mi.tb⟩
/-- What comes of a call. -/
def ROk {α : Type} (c : Cx) (P : α → VM → Prop) : Out α → Prop
  | .ok a m => P a m
  | .thr v m => (∃ ty, RunT c m ty) ∧ VVm m v
  | .trp e m => TrpO e m
def Tot {α : Type} (c : Cx) (x : Option (Out α)) (P : α → VM → Prop) : Prop := ∃ o, x = some o ∧ ROk c P o
section
variable {c : Cx} {α β : Type}
theorem Tot.ok {a : α} {m : VM} {P : α → VM → Prop} (h : P a m) : Tot c (some (.ok a m)) P := ⟨_, rfl, h⟩
theorem Tot.thr {v : V} {m : VM} {ty : Ty} {P : α → VM → Prop} (h : RunT c m ty) (hv : VVm m v) : Tot c (some (.thr v m)) P := ⟨_, rfl, ⟨ty, h⟩, hv⟩
theorem Tot.trp {e : Int} {m : VM} {ty : Ty} {P : α → VM → Prop} (h : RunT c m ty) (he : e = 8 ∨ e = 9 ∨ e = 10) : Tot c (some (.trp e m)) P := ⟨_, rfl, TrpO.of h he⟩
theorem Tot.bind {x : Option (Out α)} {k : α → VM → Option (Out β)} {P : α → VM → Prop} {Q : β → VM → Prop} (h : Tot c x P) (hk : ∀ a m, P a m → Tot c (k a m) Q) : Tot c (bindO x k) Q := by
  obtain ⟨o, rfl, ho⟩ := h
  cases o with
  | ok a m => exact hk a m ho
  | thr v m => exact ⟨_, rfl, ho⟩
  | trp e m => exact ⟨_, rfl, ho⟩
theorem Tot.okU {a : α} {x : Option VM} {m : VM} {P : α → VM → Prop} (hx : x = some m) (h : P a m) : Tot c (Go.Wl.okU a x) P := by
  subst hx
  exact ⟨_, rfl, h⟩
theorem Tot.imp {x : Option (Out α)} {P Q : α → VM → Prop} (h : Tot c x P) (hk : ∀ a m, P a m → Q a m) : Tot c x Q := by
  obtain ⟨o, rfl, ho⟩ := h
  refine ⟨o, rfl, ?_⟩
  cases o with
  | ok a m => exact hk a m ho
  | thr v m => exact ho
  | trp e m => exact ho
end
end Go.Wl
