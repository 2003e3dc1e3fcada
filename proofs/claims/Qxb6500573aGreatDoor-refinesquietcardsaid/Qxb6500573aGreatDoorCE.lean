/- Plain: the plain instructions answer, and keep what holds. -/
import Derived.Test.Qxb6500573aGreatDoorCD
namespace Go.Wl
open Go Go.Sl Go.Proofs
set_option linter.unusedVariables false
theorem bname12 (n : Int) : (builtinName n).length ≤ 12 := by
  unfold builtinName
  repeat' split
  all_goals decide
theorem tname12 (n : Int) : (typeName n).length ≤ 12 := by
  unfold typeName
  repeat' split
  all_goals decide
theorem numR_ok {v : V} (h : numOk v.n) : numR v = true := decide_eq_true h.1
/-- Every value has a text. -/
theorem text_ok {nt nc nh : Nat} {v : V} (hv : VV nt nc nh v) : ∃ t, textM v = some t ∧ t.length ≤ 40 := by
  have hw := hv.wl
  unfold well at hw
  unfold textM
  by_cases h0 : v.t = 0
  · rw [if_pos h0]; exact ⟨_, rfl, by decide⟩
  rw [if_neg h0]
  by_cases h1 : v.t = 1
  · rw [if_pos h1]; split <;> exact ⟨_, rfl, by decide⟩
  rw [if_neg h1]
  by_cases h2 : v.t = 2
  · rw [if_pos h2]
    have hn := (hv.num h2).1
    have hr : numR v = true := decide_eq_true hn
    rw [if_pos hr]
    obtain ⟨t, ht, hl⟩ := format_all (x := v.n.toNat) (by omega)
    exact ⟨t, ht, by omega⟩
  rw [if_neg h2]
  by_cases h3 : v.t = 3
  · rw [if_pos h3]
    rw [if_pos h3] at hw
    exact ⟨_, rfl, (of_decide_eq_true hw).2⟩
  rw [if_neg h3]
  rw [if_neg h3] at hw
  have hb : v.n < 4294967296 := by
    by_cases q : v.s.length ≠ 0 ∨ v.t < 0 ∨ 7 < v.t
    · rw [if_pos q] at hw; cases hw
    rw [if_neg q, if_neg h0, if_neg h1] at hw
    by_cases h6 : v.t = 6
    · rw [if_pos h6] at hw
      have := of_decide_eq_true hw
      omega
    rw [if_neg h6] at hw
    by_cases h7 : v.t = 4 ∨ v.t = 5 ∨ v.t = 7
    · rw [if_pos h7] at hw
      exact of_decide_eq_true hw
    · exfalso
      omega
  clear hw
  have hnn := hv.nn
  have hr : numR v = true := decide_eq_true (by omega)
  rw [if_pos hr]
  refine ⟨_, rfl, ?_⟩
  unfold refText
  split
  · have := bname12 (IntKind.i64.wrap v.n)
    rw [List.length_append, List.length_append]
    simp only [List.length_cons, List.length_nil]
    omega
  · have h5 := tname12 v.t
    have h6 := utoa_len v.n.toNat
    rw [List.length_append, List.length_append]
    simp only [List.length_cons, List.length_nil]
    omega
/-- What an instruction leaves: the next place's type. -/
def PO (c : Cx) (F : Int) (pc : Nat) (_ : Unit) (m : VM) : Prop := (∃ ty, RunT c m ty ∧ fall c.p (c.PT c.cl.p.toNat) pc ty) ∧ m.vs.fuel = F
section
variable {c : Cx} {m : VM} {F : Int} {pc : Nat}
theorem RunT.slen {ty : Ty} (h : RunT c m ty) : ty.st.length ≤ 1000 := by
  obtain ⟨t, _, hR⟩ := h.run
  exact hR.sz
theorem RunT.pushT {st : List Bool} {z : List Nat} (h : RunT c m ⟨st, z⟩) {v : V} (hv : VVm m v) {b : Bool} (hb : b = true → v.t = 2) (hs : st.length ≤ 900) (hf : m.vs.fuel = F) (hn : fall c.p (c.PT c.cl.p.toNat) pc ⟨st ++ [b], z⟩) : Tot c (okU () (pushM c.th [v] m)) (PO c F pc) := by
  obtain ⟨m', h1, h2, h3⟩ := h.push hv hb hs
  exact Tot.okU h1 ⟨⟨_, h2, hn⟩, by rw [h3.fuel, hf]⟩
theorem RunT.slotK {ty : Ty} (h : RunT c m ty) {x : Int} (d : Nat) (hx : 0 ≤ x ∧ x + d < c.p.nslots) : slotI c.f x + d = slotI c.f (x + d) := by
  obtain ⟨t, ht, hR⟩ := h.run
  unfold slotI
  rw [hR.b]
  omega
theorem RunT.const {ty : Ty} (h : RunT c m ty) {x : Int} (hx : 0 ≤ x ∧ x < c.p.nk) : ∃ v, constM c.p x m = some v ∧ VVm m v ∧ c.g.consts[(c.p.k + x).toNat]? = some v := by
  have hk := h.prOk.ks
  have hs := h.mi.ok.sz
  have hi : (c.p.k + x).toNat < c.g.consts.length := by omega
  refine ⟨c.g.consts[(c.p.k + x).toNat], ?_, (h.mi.ok.ks _ (List.getElem_mem hi)).mono (Nat.zero_le _) (Nat.zero_le _) (Nat.zero_le _), List.getElem?_eq_getElem hi⟩
  unfold constM
  rw [if_pos (by omega), h.mi.pg]
  exact getI_mk (by omega) (List.getElem?_eq_getElem hi)
theorem RunT.tget {ty : Ty} (h : RunT c m ty) {i : Int} (hi : 0 ≤ i ∧ i < m.vs.tabs.length) {k : V} (hk : VVm m k) : ∃ v, tget i k m = some v ∧ VVm m v := by
  have ht := h.mi.tn
  obtain ⟨v, h1, h2⟩ := getM_ok h.mi.tb hi hk
  refine ⟨v, ?_, h2⟩
  unfold Go.Wl.tget
  rw [if_pos ⟨hi.1, hi.2, by omega, hk.nn⟩, h1, bind2_some]
theorem RunT.store {st : List Bool} {z : List Nat} (h : RunT c m ⟨st, z⟩) {i : Int} (hi : 0 ≤ i ∧ i < m.vs.tabs.length) {k v : V} (hk : VVm m k) (hv : VVm m v) (hf : m.vs.fuel = F) (hn : fall c.p (c.PT c.cl.p.toNat) pc ⟨st, z⟩) : Tot c (storeM i k v m) (PO c F pc) := by
  have ht := h.mi.tn
  obtain ⟨ts, e, h1, h2, h3, h4⟩ := setM_ok h.mi.tb hi hk hv
  have hT : RunT c { m with vs := { m.vs with tabs := ts } } ⟨st, z⟩ := h.tabs (by omega) (by omega) (by rw [h3]; exact h2)
  unfold storeM
  rw [if_pos ⟨hi.1, hi.2, by omega, hk.nn⟩, h1, bind2_some]
  by_cases h8 : e = 8
  · rw [if_pos h8]; exact Tot.trp hT (.inl rfl)
  rw [if_neg h8]
  by_cases h0 : e ≠ 0
  · rw [if_pos h0]; exact Tot.thr hT (VV.str (by decide))
  · rw [if_neg h0]; exact Tot.ok ⟨⟨_, hT, hn⟩, hf⟩
theorem tabOf_ok {v : V} (hv : VVm m v) (h4 : v.t = 4) (hl : m.vs.tabs.length ≤ 12) : IntKind.i64.wrap v.n = v.n ∧ 0 ≤ v.n ∧ v.n < m.vs.tabs.length := by
  have h1 := hv.tab h4
  have h2 := hv.nn
  exact ⟨wrap_i64 (by omega) (by omega), h2, h1⟩
theorem RunT.tabOf {ty : Ty} (h : RunT c m ty) {v : V} (hv : VVm m v) {msg : List UInt8} (hm : msg.length ≤ 40) : Tot c (some (tabOfM v msg m)) (fun i m' => m' = m ∧ 0 ≤ i ∧ i < m.vs.tabs.length ∧ v.t = 4) := by
  unfold tabOfM
  by_cases h4 : v.t ≠ 4
  · rw [if_pos h4]; exact Tot.thr h (VV.str hm)
  · rw [if_neg h4]
    have h4' : v.t = 4 := Decidable.not_not.1 h4
    obtain ⟨e, h1, h2⟩ := tabOf_ok hv h4' h.mi.tn.2
    rw [e]
    exact Tot.ok ⟨rfl, h1, h2, h4'⟩
theorem RunT.numOf {ty : Ty} (h : RunT c m ty) {v : V} (hv : VVm m v) {msg : List UInt8} (hm : msg.length ≤ 40) : Tot c (some (numOfM v msg m)) (fun i m' => m' = m ∧ i = v.n ∧ v.t = 2) := by
  unfold numOfM
  by_cases h4 : v.t ≠ 2
  · rw [if_pos h4]; exact Tot.thr h (VV.str hm)
  · rw [if_neg h4]
    exact Tot.ok ⟨rfl, rfl, Decidable.not_not.1 h4⟩
theorem compare_ok {ty : Ty} (h : RunT c m ty) (op : Int) {a b : V} (ha : VVm m a) (hb : VVm m b) : Tot c (compareM op a b m) (fun _ m' => m' = m) := by
  unfold compareM
  by_cases h1 : a.t = 2 ∧ b.t = 2
  · rw [if_pos h1]
    rw [if_pos ⟨numR_ok (ha.num h1.1), numR_ok (hb.num h1.2)⟩]
    exact Tot.ok rfl
  rw [if_neg h1]
  by_cases h2 : op = 1
  · rw [if_pos h2]; exact Tot.ok rfl
  rw [if_neg h2]
  by_cases h3 : op = 2
  · rw [if_pos h3]; exact Tot.ok rfl
  rw [if_neg h3]
  by_cases h4 : a.t ≠ 3 ∨ b.t ≠ 3
  · rw [if_pos h4]; exact Tot.thr h (VV.str (by decide))
  rw [if_neg h4]
  by_cases h5 : op = 3
  · rw [if_pos h5]; exact Tot.ok rfl
  rw [if_neg h5]
  by_cases h6 : op = 4
  · rw [if_pos h6]; exact Tot.ok rfl
  rw [if_neg h6]
  by_cases h7 : op = 5
  · rw [if_pos h7]; exact Tot.ok rfl
  rw [if_neg h7]; exact Tot.ok rfl
/-- The slots' numbers are known. -/
theorem RunT.know {st : List Bool} {z z' : List Nat} (h : RunT c m ⟨st, z⟩) {t : Th} (ht : m.vs.threads[c.th]? = some t) (h0 : ∀ s : Nat, z[s]? = some 0 → z'[s]? = some 0) (h2 : ∀ s : Nat, z'[s]? = some 2 → z[s]? = some 2 ∨ ∃ v, t.stack[c.B + s]? = some v ∧ v.t = 2) (hz : z'.length ≤ c.p.nslots.toNat) : RunT c m ⟨st, z'⟩ := by
  obtain ⟨t', ht', hR⟩ := h.run
  rw [ht] at ht'
  injection ht' with ht'
  subst ht'
  refine ⟨h.mi, ⟨t, ht, ⟨hR.st, hR.fr, hR.fl, hR.sl, hR.ch, hR.cl, hR.pr, hR.b, hR.rt, hR.sz, hz, fun s hs => ?_, hR.no, ?_, hR.vv⟩⟩, h.oth⟩
  · rcases h2 s hs with q | q
    · exact hR.ns s q
    · exact q
  · exact hR.op.mono (fun _ _ _ h => h) (Nat.le_refl _) fun q hq => hq.imp (fun ⟨s, q1, q2⟩ => ⟨s, h0 s q1, q2⟩) id
theorem RunT.slotV {ty : Ty} (h : RunT c m ty) {t : Th} (ht : m.vs.threads[c.th]? = some t) {x : Int} (hx : 0 ≤ x ∧ x < c.p.nslots) {v : V} (hv : getS m c.th (slotI c.f x : Nat) = some v) : t.stack[c.B + x.toNat]? = some v := by
  obtain ⟨t', ht', hR⟩ := h.run
  rw [ht] at ht'
  injection ht' with ht'
  subst ht'
  unfold getS getT at hv
  rw [ht, bind1_some] at hv
  obtain ⟨_, _, h3⟩ := getI_lt' hv
  rw [Int.toNat_natCast] at h3
  have hs : slotI c.f x = c.B + x.toNat := by unfold slotI; rw [hR.b]; omega
  rw [← hs]; exact h3
theorem fChk_ok {st : List Bool} {z z' : List Nat} {x : Int} (h : RunT c m ⟨st, z⟩) (hx : 0 ≤ x ∧ x + 3 < c.p.nslots) (h0 : ∀ s : Nat, z[s]? = some 0 → z'[s]? = some 0) (h2 : ∀ s : Nat, z'[s]? = some 2 → z[s]? = some 2 ∨ (x ≤ s ∧ (s : Int) ≤ x + 2)) (hz : z'.length ≤ c.p.nslots.toNat) (hf : m.vs.fuel = F) (hn : fall c.p (c.PT c.cl.p.toNat) pc ⟨st, z'⟩) : Tot c (fChk c.th (slotI c.f x) m) (PO c F pc) := by
  have k1 := h.slotK (x := x) 1 (by omega)
  have k2 := h.slotK (x := x) 2 (by omega)
  obtain ⟨t, ht, _⟩ := h.run
  obtain ⟨v0, a1, a2, _⟩ := h.slot (x := x) (by omega)
  obtain ⟨v1, b1, b2, _⟩ := h.slot (x := x + (1 : Nat)) (by omega)
  obtain ⟨v2, d1, d2, _⟩ := h.slot (x := x + (2 : Nat)) (by omega)
  unfold fChk
  rw [a1, bind1_some]
  by_cases q0 : v0.t ≠ 2
  · rw [if_pos q0]; exact Tot.thr h (VV.str (by decide))
  rw [if_neg q0, k1, b1, bind1_some]
  by_cases q1 : v1.t ≠ 2
  · rw [if_pos q1]; exact Tot.thr h (VV.str (by decide))
  rw [if_neg q1, k2, d1, bind1_some]
  by_cases q2 : v2.t ≠ 2
  · rw [if_pos q2]; exact Tot.thr h (VV.str (by decide))
  rw [if_neg q2]
  have q2' : v2.t = 2 := Decidable.not_not.1 q2
  rw [if_pos (numR_ok (d2.num q2'))]
  cases cmpM 1 v2.n.toNat 0 with
  | true => exact Tot.thr h (VV.str (by decide))
  | false =>
    cases cmpM 2 v2.n.toNat v2.n.toNat with
    | true => exact Tot.thr h (VV.str (by decide))
    | false =>
      refine Tot.ok ⟨⟨_, h.know ht h0 (fun s hs => ?_) hz, hn⟩, hf⟩
      rcases h2 s hs with q | q
      · exact .inl q
      · right
        have hs3 : s = x.toNat ∨ s = x.toNat + 1 ∨ s = x.toNat + 2 := by omega
        rcases hs3 with rfl | rfl | rfl
        · exact ⟨v0, h.slotV ht (by omega) a1, Decidable.not_not.1 q0⟩
        · have := h.slotV ht (x := x + (1 : Nat)) (by omega) b1
          rw [show (x + (1 : Nat)).toNat = x.toNat + 1 from by omega] at this
          exact ⟨v1, this, Decidable.not_not.1 q1⟩
        · have := h.slotV ht (x := x + (2 : Nat)) (by omega) d1
          rw [show (x + (2 : Nat)).toNat = x.toNat + 2 from by omega] at this
          exact ⟨v2, this, q2'⟩
theorem fTest_ok {st : List Bool} {z : List Nat} {x : Int} (h : RunT c m ⟨st, z⟩) (hx : 0 ≤ x ∧ x + 3 < c.p.nslots) (h0 : z[x.toNat]? = some 2) (h1 : z[x.toNat + 1]? = some 2) (h2 : z[x.toNat + 2]? = some 2) (hs : st.length ≤ 900) (hf : m.vs.fuel = F) (hn : fall c.p (c.PT c.cl.p.toNat) pc ⟨st ++ [false], z⟩) : Tot c (fTest c.th (slotI c.f x) m) (PO c F pc) := by
  have k1 := h.slotK (x := x) 1 (by omega)
  have k2 := h.slotK (x := x) 2 (by omega)
  obtain ⟨v0, a1, a2, a3⟩ := h.slot (x := x) (by omega)
  obtain ⟨v1, b1, b2, b3⟩ := h.slot (x := x + (1 : Nat)) (by omega)
  obtain ⟨v2, d1, d2, d3⟩ := h.slot (x := x + (2 : Nat)) (by omega)
  rw [show (x + (1 : Nat)).toNat = x.toNat + 1 from by omega] at b3
  rw [show (x + (2 : Nat)).toNat = x.toNat + 2 from by omega] at d3
  unfold fTest
  rw [a1, bind1_some, k1, b1, bind1_some, k2, d1, bind1_some, if_pos ⟨numR_ok (a2.num (a3 h0)), numR_ok (b2.num (b3 h1)), numR_ok (d2.num (d3 h2))⟩]
  exact h.pushT (VV.bool _) (fun q => by cases q) hs hf hn
theorem fNext_ok {st : List Bool} {z : List Nat} {x : Int} (h : RunT c m ⟨st, z⟩) (hx : 0 ≤ x ∧ x + 3 < c.p.nslots) (h1 : z[x.toNat + 1]? ≠ some 2) (h2 : z[x.toNat + 2]? ≠ some 2) (h3 : z[x.toNat + 3]? ≠ some 2) (hs : st.length ≤ 900) (hf : m.vs.fuel = F) (hn : fall c.p (c.PT c.cl.p.toNat) pc ⟨st ++ [false], z⟩) : Tot c (fNext c.th (slotI c.f x) m) (PO c F pc) := by
  have k1 := h.slotK (x := x) 1 (by omega)
  have k2 := h.slotK (x := x) 2 (by omega)
  have k3 := h.slotK (x := x) 3 (by omega)
  obtain ⟨v0, a1, a2, a3⟩ := h.slot (x := x) (by omega)
  obtain ⟨v1, b1, b2, b3⟩ := h.slot (x := x + (1 : Nat)) (by omega)
  unfold fNext
  rw [a1, bind1_some]
  refine (h.tabOf a2 (by decide)).bind fun i m' hi => ?_
  obtain ⟨rfl, i1, i2, _⟩ := hi
  have htn := h.mi.tn
  obtain ⟨r, r1, r2, r3⟩ := nextM_ok h.mi.tb ⟨i1, i2⟩ b2
  rw [k1, b1, bind1_some, if_pos ⟨i1, i2, by omega, b2.nn⟩, r1, bind1_some]
  by_cases q : r.2.2 ≠ 0
  · rw [if_pos q]; exact Tot.thr h (VV.str (by decide))
  rw [if_neg q]
  obtain ⟨m1, g1, g2, g3⟩ := h.setSlot (x := x + (1 : Nat)) (by omega) r2 (fun w => by rw [show (x + (1 : Nat)).toNat = x.toNat + 1 from by omega] at w; exact absurd w h1)
  rw [g1, bind1_some]
  obtain ⟨m2, g4, g5, g6⟩ := g2.setSlot (x := x + (2 : Nat)) (by omega) (g3.vv r2) (fun w => by rw [show (x + (2 : Nat)).toNat = x.toNat + 2 from by omega] at w; exact absurd w h2)
  rw [k2, g4, bind1_some]
  obtain ⟨m3, g7, g8, g9⟩ := g5.setSlot (x := x + (3 : Nat)) (by omega) (g6.vv (g3.vv r3)) (fun w => by rw [show (x + (3 : Nat)).toNat = x.toNat + 3 from by omega] at w; exact absurd w h3)
  rw [k3, g7, bind1_some]
  exact g8.pushT (VV.bool _) (fun q => by cases q) hs (by rw [g9.fuel, g6.fuel, g3.fuel, hf]) hn
/-- The operators. -/
theorem arith_okT {st : List Bool} {z : List Nat} {a : Bool} {x : Int} {w : V} (h : RunT c m ⟨st ++ [a], z⟩) (hw : VVm m w) (hs : st.length ≤ 900) (hf : m.vs.fuel = F) (hn : fall c.p (c.PT c.cl.p.toNat) pc ⟨st ++ [true], z⟩) : Tot c (opArith c.th x w m) (PO c F pc) := by
  obtain ⟨v, m1, g1, g2, _, g3, g4⟩ := h.pop
  unfold opArith
  rw [g1, bind2_some]
  refine (g3.numOf (g4.vv g2) (by decide)).bind fun i m' hi => ?_
  obtain ⟨rfl, rfl, hv2⟩ := hi
  refine (g3.numOf (g4.vv hw) (by decide)).bind fun i m' hi => ?_
  obtain ⟨rfl, rfl, hw2⟩ := hi
  have n1 := (g2.num hv2).1
  have n2 := (hw.num hw2).1
  rw [if_pos ⟨n1, n2⟩]
  exact g3.pushT (VV.numb (arith_ok _ _ _)) (fun _ => rfl) hs (by rw [g4.fuel, hf]) hn
theorem cmp_okT {st : List Bool} {z : List Nat} {a : Bool} {x : Int} {w : V} (h : RunT c m ⟨st ++ [a], z⟩) (hw : VVm m w) (hs : st.length ≤ 900) (hf : m.vs.fuel = F) (hn : fall c.p (c.PT c.cl.p.toNat) pc ⟨st ++ [false], z⟩) : Tot c (opCmp c.th x w m) (PO c F pc) := by
  obtain ⟨v, m1, g1, g2, _, g3, g4⟩ := h.pop
  unfold opCmp
  rw [g1, bind2_some]
  refine (compare_ok g3 x (g4.vv g2) (g4.vv hw)).bind fun b m' hm => ?_
  subst hm
  exact g3.pushT (VV.bool _) (fun q => by cases q) hs (by rw [g4.fuel, hf]) hn
theorem cat_okT {st : List Bool} {z : List Nat} {a : Bool} {w : V} (h : RunT c m ⟨st ++ [a], z⟩) (hw : VVm m w) (hs : st.length ≤ 900) (hf : m.vs.fuel = F) (hn : fall c.p (c.PT c.cl.p.toNat) pc ⟨st ++ [false], z⟩) : Tot c (opCat c.th w m) (PO c F pc) := by
  obtain ⟨v, m1, g1, g2, _, g3, g4⟩ := h.pop
  unfold opCat
  rw [g1, bind2_some]
  split
  · exact Tot.thr g3 (VV.str (by decide))
  split
  · exact Tot.thr g3 (VV.str (by decide))
  obtain ⟨l, l1, l2⟩ := text_ok g2
  obtain ⟨r, r1, r2⟩ := text_ok hw
  rw [l1, bind1_some, r1, bind1_some, if_pos (by omega)]
  by_cases q : 40 < (l.length : Int) + r.length
  · rw [if_pos q]; exact Tot.thr g3 (VV.str (by decide))
  · rw [if_neg q]
    exact g3.pushT (VV.str (by simp; omega)) (fun q => by cases q) hs (by rw [g4.fuel, hf]) hn
theorem neg_okT {st : List Bool} {z : List Nat} {w : V} (h : RunT c m ⟨st, z⟩) (hw : VVm m w) (hs : st.length ≤ 900) (hf : m.vs.fuel = F) (hn : fall c.p (c.PT c.cl.p.toNat) pc ⟨st ++ [false], z⟩) : Tot c (opNeg c.th w m) (PO c F pc) := by
  unfold opNeg
  refine (h.numOf hw (by decide)).bind fun i m' hi => ?_
  obtain ⟨rfl, rfl, hw2⟩ := hi
  have n2 := (hw.num hw2).1
  rw [if_pos n2]
  exact h.pushT (VV.numb (neg_ok (by omega))) (fun q => by cases q) hs hf hn
theorem len_okT {st : List Bool} {z : List Nat} {w : V} (h : RunT c m ⟨st, z⟩) (hw : VVm m w) (hs : st.length ≤ 900) (hf : m.vs.fuel = F) (hn : fall c.p (c.PT c.cl.p.toNat) pc ⟨st ++ [false], z⟩) : Tot c (opLen c.th w m) (PO c F pc) := by
  unfold opLen
  by_cases h3 : w.t ≠ 3
  · rw [if_pos h3]
    refine (h.tabOf hw (by decide)).bind fun i m' hi => ?_
    obtain ⟨rfl, i1, i2, _⟩ := hi
    have htn := h.mi.tn
    obtain ⟨l, l1, l2⟩ := lenM_ok h.mi.tb ⟨i1, i2⟩
    rw [if_pos ⟨i1, i2, by omega⟩, l1, bind2_some]
    exact h.pushT (VV.numb (numI_ok (by omega))) (fun q => by cases q) hs hf hn
  · rw [if_neg h3]
    have h3' : w.t = 3 := Decidable.not_not.1 h3
    have hl : w.s.length ≤ 40 := by
      have := hw.wl
      unfold well at this
      rw [if_pos h3'] at this
      exact (of_decide_eq_true this).2
    exact h.pushT (VV.numb (numI_ok (n := w.s.length) (by omega))) (fun q => by cases q) hs hf hn
end
end Go.Wl
