/- Plain: the interpreter and the machine: closures. -/
import Derived.Test.Qxb6500573aGreatDoorSJ
namespace Go.Wl
open Go Go.Sl Go.Proofs
set_option linter.unusedVariables false
section
variable {c : Cx} {m : VM} {ty : Ty} {k : Nat}
/-- The variable's cell, exactly. -/
theorem RunX.capX (h : RunX c k m ty) (hk : k ≤ 255) {s : Nat} (hs : ty.z[s]? = some 0) {t : Th} (ht : m.vs.threads[c.th]? = some t) : ∃ (j : Nat) (o : List Int) (cs : List Ce) (ce : Ce), captureM c.th ((c.B + s : Nat) : Int) m = some ((j : Int), setTh { m with vs := { m.vs with cells := m.vs.cells ++ cs } } c.th { t with opn := o }) ∧ (m.vs.cells ++ cs)[j]? = some ce ∧ ce.th = (c.th : Int) ∧ ce.at_ = ((c.B + s : Nat) : Int) := by
  obtain ⟨t', ht', hR⟩ := h.run
  rw [ht] at ht'
  injection ht' with ht'
  subst ht'
  have hb := h.stkB ht
  obtain ⟨o1, o2, o3⟩ := hR.op
  have hcl : m.vs.cells.length < 1000000 := by
    have h1 := h.mi.ul
    have h2 := h.mi.cn
    omega
  obtain ⟨i, h1, h2, h3, h4⟩ := capI_ok (cells := m.vs.cells) (o := t.opn) (at_ := ((c.B + s : Nat) : Int)) (fun j hj => (o1 j hj).imp fun e he => he.1) t.opn.length (Nat.le_refl _)
  have hnew : ∀ i, Go.Wl.capNew c.th ((c.B + s : Nat) : Int) i t m = some ((m.vs.cells.length : Int), setTh { m with vs := { m.vs with cells := m.vs.cells ++ [⟨c.th, ((c.B + s : Nat) : Int), V.nil⟩] } } c.th { t with opn := t.opn.take i ++ [(m.vs.cells.length : Int)] ++ t.opn.drop i }) := fun i => by
    unfold Go.Wl.capNew
    rw [if_pos hcl]
  unfold captureM getT
  rw [ht, bind1_some, if_pos (by omega), h2, bind1_some]
  cases i with
  | zero =>
    dsimp only
    rw [hnew 0]
    exact ⟨_, _, _, ⟨c.th, ((c.B + s : Nat) : Int), V.nil⟩, rfl, by simp, rfl, rfl⟩
  | succ n =>
    dsimp only
    have hl : n < t.opn.length := by omega
    obtain ⟨e, he, hth, hz⟩ := o1 t.opn[n] (List.getElem_mem hl)
    rw [List.getElem?_eq_getElem hl, bind1_some, he, bind1_some]
    by_cases heq : e.at_ = ((c.B + s : Nat) : Int)
    · rw [if_pos heq]
      obtain ⟨q1, q2, q3⟩ := getI_lt' he
      refine ⟨t.opn[n].toNat, t.opn, [], e, ?_, by rw [List.append_nil]; exact q3, hth, heq⟩
      rw [Int.toNat_of_nonneg q1, List.append_nil]
      have e2 : setTh m c.th t = m := setTh_same ht
      exact congrArg some (congrArg (Prod.mk t.opn[n]) e2.symm)
    · rw [if_neg heq, hnew (n + 1)]
      exact ⟨_, _, _, ⟨c.th, ((c.B + s : Nat) : Int), V.nil⟩, rfl, by simp, rfl, rfl⟩
end
end Go.Wl
namespace Go.Sm
open Go Go.Sl Go.Wl Go.Nm Go.Proofs
set_option linter.unusedVariables false
/-- Cells and upvalues have come to; the thread's list of open cells is another. -/
def grow (m : VM) (th : Nat) (t : Th) (cs : List Ce) (us : List Int) (o : List Int) : VM := setTh { m with vs := { m.vs with cells := m.vs.cells ++ cs, upix := m.vs.upix ++ us } } th { t with opn := o }
theorem grow_grow (m : VM) (th : Nat) (t : Th) (cs cs2 : List Ce) (us us2 : List Int) (o o2 : List Int) : grow (grow m th t cs us o) th { t with opn := o } cs2 us2 o2 = grow m th t (cs ++ cs2) (us ++ us2) o2 := by
  unfold grow setTh
  simp only [List.append_assoc, List.set_set]
theorem grow_upix (m : VM) (th : Nat) (t : Th) (cs : List Ce) (us : List Int) (o : List Int) : (grow m th t cs us o).vs.upix = m.vs.upix ++ us := rfl
theorem grow_cells (m : VM) (th : Nat) (t : Th) (cs : List Ce) (us : List Int) (o : List Int) : (grow m th t cs us o).vs.cells = m.vs.cells ++ cs := rfl
theorem UpAt.grow {m m' : VM} {cs : List Ce} {us : List Int} (h1 : m'.vs.upix = m.vs.upix ++ us) (h2 : m'.vs.cells = m.vs.cells ++ cs) {idx : Nat} {pl : Plc} (h : UpAt m idx pl) : UpAt m' idx pl := by
  obtain ⟨j, ce, q1, q2, q3⟩ := h
  exact ⟨j, ce, by rw [h1, List.getElem?_append_left (lt_of q1)]; exact q1, by rw [h2, List.getElem?_append_left (lt_of q2)]; exact q2, q3⟩
section
variable {c : Cx} {ty : Ty}
theorem ups_x : ∀ (ds : List (Int × Int)) {k : Nat} {m : VM}, RunX c k m ty → (∀ d, d ∈ ds → descOk c.p ty.z d ∧ d.2 ≤ 255) → k + ds.length ≤ 255 → ∀ {t : Th}, m.vs.threads[c.th]? = some t →
    ∃ (o : List Int) (cs : List Ce) (us : List Int), upsM c.th c.fs.length ds m = some (grow m c.th t cs us o) ∧ us.length = ds.length ∧ ∀ (q : Nat) (d : Int × Int), ds[q]? = some d → (d.1 = 1 → UpAt (grow m c.th t cs us o) (m.vs.upix.length + q) (.stk c.th (c.B + d.2.toNat))) ∧ (d.1 = 0 → ∀ pl, UpAt m (c.cl.up.toNat + d.2.toNat) pl → UpAt (grow m c.th t cs us o) (m.vs.upix.length + q) pl)
  | [], k, m, h, _, _, t, ht => by
    refine ⟨t.opn, [], [], ?_, rfl, fun q d hq => by cases hq⟩
    unfold upsM grow
    rw [List.append_nil, List.append_nil, show ({ m with vs := { m.vs with cells := m.vs.cells, upix := m.vs.upix } } : VM) = m from rfl, show ({ t with opn := t.opn } : Th) = t from rfl, setTh_same ht]
  | d :: ds, k, m, h, hd, hk, t, ht => by
    obtain ⟨t', ht', hR⟩ := h.run
    rw [ht] at ht'
    injection ht' with ht'
    subst ht'
    have hb := h.stkB ht
    have hsl := hR.sl
    have hul := h.mi.ul
    have hcn := h.mi.cn
    obtain ⟨hd1, hd2⟩ := hd d List.mem_cons_self
    rw [List.length_cons] at hk
    unfold upsM
    rw [h.frame, bind1_some]
    -- one more upvalue, then the rest
    have hrest : ∀ (j : Nat) (cs : List Ce) (o : List Int), RunX c (k + 1) (grow m c.th t cs [(j : Int)] o) ty → (d.1 = 1 → UpAt (grow m c.th t cs [(j : Int)] o) m.vs.upix.length (.stk c.th (c.B + d.2.toNat))) → (d.1 = 0 → ∀ pl, UpAt m (c.cl.up.toNat + d.2.toNat) pl → UpAt (grow m c.th t cs [(j : Int)] o) m.vs.upix.length pl) →
        ∃ (o2 : List Int) (cs2 : List Ce) (us2 : List Int), upsM c.th c.fs.length ds (grow m c.th t cs [(j : Int)] o) = some (grow m c.th t cs2 us2 o2) ∧ us2.length = (d :: ds).length ∧ ∀ (q : Nat) (d' : Int × Int), (d :: ds)[q]? = some d' → (d'.1 = 1 → UpAt (grow m c.th t cs2 us2 o2) (m.vs.upix.length + q) (.stk c.th (c.B + d'.2.toNat))) ∧ (d'.1 = 0 → ∀ pl, UpAt m (c.cl.up.toNat + d'.2.toNat) pl → UpAt (grow m c.th t cs2 us2 o2) (m.vs.upix.length + q) pl) := fun j cs o hx f1 f2 => by
      obtain ⟨o2, cs2, us2, g1, g2, g3⟩ := ups_x ds hx (fun d hd' => hd d (List.mem_cons_of_mem _ hd')) (by omega) (t := { t with opn := o }) (setTh_at (m := { m with vs := { m.vs with cells := m.vs.cells ++ cs, upix := m.vs.upix ++ [(j : Int)] } }) ht)
      rw [grow_grow] at g1 g3
      refine ⟨o2, cs ++ cs2, [(j : Int)] ++ us2, g1, by simp [g2], fun q d' hq => ?_⟩
      have hmono : ∀ {idx : Nat} {pl : Plc}, UpAt (grow m c.th t cs [(j : Int)] o) idx pl → UpAt (grow m c.th t (cs ++ cs2) ([(j : Int)] ++ us2) o2) idx pl := fun hu => hu.grow (us := us2) (cs := cs2) (by rw [grow_upix, grow_upix, List.append_assoc]) (by rw [grow_cells, grow_cells, List.append_assoc])
      cases q with
      | zero =>
        injection hq with hq
        subst hq
        rw [Nat.add_zero]
        exact ⟨fun q1 => hmono (f1 q1), fun q1 pl hp => hmono (f2 q1 pl hp)⟩
      | succ q =>
        obtain ⟨w1, w2⟩ := g3 q d' hq
        rw [grow_upix, List.length_append, List.length_singleton, show m.vs.upix.length + 1 + q = m.vs.upix.length + (q + 1) from by omega] at w1 w2
        exact ⟨w1, fun q1 pl hp => w2 q1 pl (hp.grow (us := [(j : Int)]) (cs := cs) (grow_upix _ _ _ _ _ _) (grow_cells _ _ _ _ _ _))⟩
    rcases hd1 with ⟨e1, e2, e3⟩ | ⟨e1, e2, e3⟩
    · rw [if_pos e1, if_pos (by rw [hR.b]; unfold Cx.O at hsl; omega)]
      have e : c.f.base + d.2 = ((c.B + d.2.toNat : Nat) : Int) := by rw [hR.b]; omega
      obtain ⟨j0, m1, g1, g2, g3, g4, g5, g6⟩ := h.capUp (by omega) e3
      obtain ⟨j, o, cs, ce, w1, w2, w3, w4⟩ := h.capX (by omega) e3 ht
      rw [g1] at w1
      injection w1 with w1
      injection w1 with w1a w1b
      subst w1a w1b
      rw [e, g1, bind2_some, if_pos (by rw [g3]; omega)]
      refine hrest j cs o g2 (fun _ => ⟨j, ce, ?_, w2, .inl ⟨by omega, ?_⟩⟩) (fun q => by omega)
      · show (m.vs.upix ++ [(j : Int)])[m.vs.upix.length]? = _
        simp
      · rw [w3, w4, Int.toNat_natCast, Int.toNat_natCast]
    · rw [if_neg (by omega), hR.cl, bind1_some]
      obtain ⟨_, _, hcl⟩ := getI_lt' hR.cl
      obtain ⟨p, p1, p2, p3, p4⟩ := h.mi.cl _ _ hcl
      rw [hR.pr] at p1
      injection p1 with p1
      subst p1
      have hnp := (h.mi.ok.pr _ _ (getI_lt' hR.pr).2.2).up
      have hi : (c.cl.up + d.2).toNat < m.vs.upix.length := by omega
      rw [if_pos (by omega), getI_mk (by omega) (List.getElem?_eq_getElem hi), bind1_some, if_pos (by omega)]
      have hu := h.mi.ux _ (List.getElem_mem hi)
      have hgr : ({ m with vs := { m.vs with upix := m.vs.upix ++ [m.vs.upix[(c.cl.up + d.2).toNat]] } } : VM) = grow m c.th t [] [((m.vs.upix[(c.cl.up + d.2).toNat].toNat : Nat) : Int)] t.opn := by
        unfold grow
        rw [List.append_nil, Int.toNat_of_nonneg hu.1, show ({ t with opn := t.opn } : Th) = t from rfl]
        exact (setTh_same (m := { m with vs := { m.vs with cells := m.vs.cells, upix := m.vs.upix ++ [m.vs.upix[(c.cl.up + d.2).toNat]] } }) ht).symm
      have hx := h.upAdd hu
      rw [hgr] at hx ⊢
      refine hrest _ [] t.opn hx (fun q => by omega) (fun _ pl hp => ?_)
      obtain ⟨j, ce, q1, q2, q3⟩ := hp
      have e5 : c.cl.up.toNat + d.2.toNat = (c.cl.up + d.2).toNat := by omega
      rw [e5, List.getElem?_eq_getElem hi] at q1
      injection q1 with q1
      refine ⟨j, ce, ?_, by rw [grow_cells, List.append_nil]; exact q2, q3⟩
      rw [grow_upix, List.getElem?_append_right (Nat.le_refl _), Nat.sub_self, q1]
      simp
end
end Go.Sm
