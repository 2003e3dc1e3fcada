/- The two machines: a step that falls through. -/
import Derived.Test.Qxb6500572aGreatDoorNN
namespace Go.Wl
open Go Go.Sl
set_option linter.unusedVariables false
variable {P : Prog} {k : Nat} {u : Fun} {T : Typ} {B BM : List W} {FB : List Fr} {x y Z : VM} {R R' : RS} {loc ops loc' ops' : List W} {pc pc' : Nat} {c : Ins} {f : Flat}
theorem Sim.st (h : Sim P y R) (s : List W) (s' : List W) : Sim P (y.setSt s) { R with st := s' } := ⟨⟨h.e.n, h.e.mem, h.e.used, h.e.tr⟩, h.P, h.ak, h.k6⟩
theorem lst_R {A : List W} {B : List W} {y : W} : lst (A ++ (B ++ [y])) = y := by rw [← List.append_assoc, lst_app]
theorem drop_R {A : List W} {B : List W} {y : W} : (A ++ (B ++ [y])).dropLast = A ++ B := by rw [← List.append_assoc, drop_app]
theorem loc_get {l : List W} {ts : List UInt8} {n : Nat} {t : UInt8} (h : l.map W.t = ts) (ht : ts[n]? = some t) : ∃ hn : n < l.length, l[n].t = t := by
  subst h
  rw [List.getElem?_map] at ht
  cases hg : l[n]? with
  | none => rw [hg] at ht; cases ht
  | some y =>
    rw [hg] at ht
    obtain ⟨hn, e⟩ := List.getElem?_eq_some_iff.1 hg
    exact ⟨hn, by rw [e]; simpa using ht⟩
/-- What a step that falls through makes. -/
def Fall (P : Prog) (k : Nat) (u : Fun) (T : Typ) (B BM : List W) (FB : List Fr) (y : VM) (f : Flat) (R : RS) (pc : Nat) (q : Option RR) : Prop :=
  ∃ (e : Int) (R' : RS) (loc' : List W), q = some (-1, e, R', loc') ∧ R'.used = R.used ∧
    ((e = 0 ∧ ∃ y' ops', y.exec f = (y', none) ∧ Frm P k u T B BM FB y' R' loc' ops' (pc + 1)) ∨ (e ≠ 0 ∧ ∃ y', y.exec f = (y', some e) ∧ Ends y' R'))
theorem fall11 (h : Frm P k u T B BM FB y R loc ops pc) (hi : IOk P u T pc f (ops.map W.t)) (he : f.op = 11) (hc : c.op = 11) : Fall P k u T B BM FB y f R pc (stepP R loc c) := by
  obtain ⟨τ', t, h1, h2⟩ := hi.i11 he
  obtain ⟨o1, z, rfl, g1, g2⟩ := map_snoc h1
  refine ⟨0, { R with st := R.st.dropLast }, loc, ?_, rfl, .inl ⟨rfl, y.pop.next.1, o1, ?_⟩⟩
  · unfold stepP
    rw [if_neg (by omega), if_neg (by omega), if_neg (by omega), if_neg (by omega), if_neg (by omega), if_pos hc, if_pos (by rw [h.rs]; simp; omega)]
  · rw [exec_x11 he]
    refine h.nxt (Z := y.pop) rfl ?_ rfl (h.sim.st _ _) ?_ (by rw [h2, g1])
    · show y.i.st.dropLast = _; rw [h.st, drop_R]
    · show R.st.dropLast = _; rw [h.rs, drop_R]
theorem fall12 (h : Frm P k u T B BM FB y R loc ops pc) (hi : IOk P u T pc f (ops.map W.t)) (he : f.op = 12) (hc : c.op = 12) : Fall P k u T B BM FB y f R pc (stepP R loc c) := by
  obtain ⟨τ', t, h1, h2⟩ := hi.i12 he
  rw [show τ' ++ [t, t, 105] = ((τ' ++ [t]) ++ [t]) ++ [105] by simp] at h1
  obtain ⟨o3, z3, rfl, g1, g2⟩ := map_snoc h1
  obtain ⟨o2, z2, rfl, g3, g4⟩ := map_snoc g1
  obtain ⟨o1, z1, rfl, g5, g6⟩ := map_snoc g3
  have r0 : lst R.st = z3 := by rw [h.rs, lst_R]
  have r1 : R.st.dropLast = BM ++ ((o1 ++ [z1]) ++ [z2]) := by rw [h.rs, drop_R]
  have r2 : lst R.st.dropLast = z2 := by rw [r1, lst_R]
  have r3 : R.st.dropLast.dropLast = BM ++ (o1 ++ [z1]) := by rw [r1, drop_R]
  have r4 : lst R.st.dropLast.dropLast = z1 := by rw [r3, lst_R]
  have r5 : R.st.dropLast.dropLast.dropLast = BM ++ o1 := by rw [r3, drop_R]
  have v0 : lst y.i.st = z3 := by rw [h.st, lst_R]
  have v1 : y.pop.i.st = (B ++ loc) ++ ((o1 ++ [z1]) ++ [z2]) := by show y.i.st.dropLast = _; rw [h.st, drop_R]
  have v2 : lst y.pop.i.st = z2 := by rw [v1, lst_R]
  have v3 : y.pop.pop.i.st = (B ++ loc) ++ (o1 ++ [z1]) := by show y.pop.i.st.dropLast = _; rw [v1, drop_R]
  have v4 : lst y.pop.pop.i.st = z1 := by rw [v3, lst_R]
  have v5 : y.pop.pop.pop.i.st = (B ++ loc) ++ o1 := by show y.pop.pop.i.st.dropLast = _; rw [v3, drop_R]
  refine ⟨0, { R with st := BM ++ (o1 ++ [if z3.n = 0 then z2 else z1]) }, loc, ?_, rfl, .inl ⟨rfl, (y.pop.pop.pop.push (if z3.n = 0 then z2 else z1)).next.1, o1 ++ [if z3.n = 0 then z2 else z1], ?_⟩⟩
  · unfold stepP
    rw [if_neg (by omega), if_neg (by omega), if_neg (by omega), if_neg (by omega), if_neg (by omega), if_neg (by omega), if_pos hc, r5, r0, r2, r4]
    rw [if_pos ⟨by rw [h.rs]; simp; omega, t105 g2, wOf_t (g4.trans g6.symm)⟩, List.append_assoc]
  · rw [exec_x12 he]
    have e : y.x12 f = (y.pop.pop.pop.push (if z3.n = 0 then z2 else z1)).next := by
      unfold VM.x12
      rw [v0, v2, v4]
      split <;> rfl
    rw [e]
    refine h.nxt (Z := y.pop.pop.pop.push _) rfl ?_ rfl (h.sim.st _ _) rfl ?_
    · show y.pop.pop.pop.i.st ++ _ = _; rw [v5]; simp
    · rw [h2, List.map_append, g5]
      congr 2
      split <;> simp [g4, g6]
theorem fall13 (h : Frm P k u T B BM FB y R loc ops pc) (hi : IOk P u T pc f (ops.map W.t)) (he : f.op = 13) (hc : c.op = 13) (hm : f.imm = c.imm) : Fall P k u T B BM FB y f R pc (stepP R loc c) := by
  obtain ⟨t, h0, h1, h2⟩ := hi.i13 he
  rw [hm] at h0 h1
  obtain ⟨hn, ht⟩ := loc_get h.lt h1
  have hg : loc.getD c.imm.toNat ⟨false, 0⟩ = loc[c.imm.toNat] := by rw [List.getD_eq_getElem?_getD, List.getElem?_eq_getElem hn]; rfl
  refine ⟨0, { R with st := R.st ++ [loc[c.imm.toNat]] }, loc, ?_, rfl, .inl ⟨rfl, (y.push loc[c.imm.toNat]).next.1, ops ++ [loc[c.imm.toNat]], ?_⟩⟩
  · unfold stepP
    rw [if_neg (by omega), if_neg (by omega), if_neg (by omega), if_neg (by omega), if_neg (by omega), if_neg (by omega), if_neg (by omega), if_pos hc, if_pos (by omega), hg]
  · rw [exec_x13 he]
    unfold VM.x13
    have hx : y.i.st.getD (y.i.top.base + f.imm).toNat ⟨false, 0⟩ = loc[c.imm.toNat] := by
      rw [h.topv, hm]
      dsimp only
      rw [show ((B.length : Int) + c.imm).toNat = B.length + c.imm.toNat by omega, h.st, List.append_assoc, List.getD_eq_getElem?_getD, List.getElem?_append_right (by omega), Nat.add_sub_cancel_left, List.getElem?_append_left hn, List.getElem?_eq_getElem hn]; rfl
    rw [hx]
    refine h.nxt (Z := y.push _) rfl ?_ rfl (h.sim.st _ _) ?_ (by rw [h2, List.map_append, List.map_singleton, ht])
    · show y.i.st ++ _ = _; rw [h.st]; simp
    · show R.st ++ _ = _; rw [h.rs]; simp
theorem fall14 (h : Frm P k u T B BM FB y R loc ops pc) (hi : IOk P u T pc f (ops.map W.t)) (he : f.op = 14) (hc : c.op = 14) (hm : f.imm = c.imm) : Fall P k u T B BM FB y f R pc (stepP R loc c) := by
  obtain ⟨t, τ', h0, h1, h2, h3⟩ := hi.i14 he
  rw [hm] at h0 h1
  obtain ⟨hn, ht⟩ := loc_get h.lt h1
  obtain ⟨o1, z, rfl, g1, g2⟩ := map_snoc h2
  have hg : loc.getD c.imm.toNat ⟨false, 0⟩ = loc[c.imm.toNat] := by rw [List.getD_eq_getElem?_getD, List.getElem?_eq_getElem hn]; rfl
  have r0 : lst R.st = z := by rw [h.rs, lst_R]
  refine ⟨0, { R with st := R.st.dropLast }, loc.set c.imm.toNat z, ?_, rfl, .inl ⟨rfl, (y.setSt (y.i.st.dropLast.set (y.i.top.base + f.imm).toNat (lst y.i.st))).next.1, o1, ?_⟩⟩
  · unfold stepP
    rw [if_neg (by omega), if_neg (by omega), if_neg (by omega), if_neg (by omega), if_neg (by omega), if_neg (by omega), if_neg (by omega), if_neg (by omega), if_pos hc, hg, r0, if_pos ⟨by omega, by rw [h.rs]; simp; omega, wOf_t (g2.trans ht.symm)⟩]
  · rw [exec_x14 he]
    unfold VM.x14
    refine h.nxt (Z := y.setSt _) (loc' := loc.set c.imm.toNat z) rfl ?_ ?_ (h.sim.st _ _) ?_ (by rw [h3, g1])
    · show y.i.st.dropLast.set _ _ = _
      rw [h.topv, hm]
      dsimp only
      rw [show ((B.length : Int) + c.imm).toNat = B.length + c.imm.toNat by omega, h.st, drop_R, lst_R, List.append_assoc, List.set_append_right _ _ (by omega), Nat.add_sub_cancel_left, List.set_append_left _ _ hn, List.append_assoc]
    · apply List.ext_getElem
      · simp
      · intro n h1 h2
        rw [List.getElem_map, List.getElem_map, List.getElem_set]
        split
        · rename_i e; subst e; rw [g2, ht]
        · rfl
    · show R.st.dropLast = _; rw [h.rs, drop_R]
theorem topW_app {A B : List W} {n : Nat} (h : B.length = n) : topW (A ++ B) n = B ∧ cutW (A ++ B) n = A := by
  subst h
  unfold topW cutW
  rw [List.length_append, Nat.add_sub_cancel]
  exact ⟨List.drop_left, List.take_left⟩
theorem sigM_ty2 (op : Int) : ty2 (sigM op).2.1 := by
  unfold sigM
  intro t
  repeat' split
  all_goals (intro h; simp at h; try simp [h])
theorem fallP (h : Frm P k u T B BM FB y R loc ops pc) (hi : IOk P u T pc f (ops.map W.t)) (he : f.op = c.op) (hm : f.imm = c.imm) (hc : 15 ≤ c.op) (hM : MemOk y.mem) (h17 : f.op = 17 → -2147483648 ≤ f.imm ∧ f.imm ≤ 2147483647) : Fall P k u T B BM FB y f R pc (stepP R loc c) := by
  obtain ⟨i, o, τ', h1, h2, h3, h4⟩ := hi.ip (by omega)
  obtain ⟨o1, args, rfl, g1, g2⟩ := map_app h2
  have hsg := sigs_sigM (sg_some h1)
  rw [h1] at hsg
  obtain ⟨hsi, hso⟩ : i = (sigM f.op).1 ∧ o = (sigM f.op).2.1 := by simpa [Prod.ext_iff] using hsg
  rw [he] at hsi hso
  have hal : args.length = (sigM c.op).1.length := by rw [← hsi, ← g2]; simp
  have hst : y.i.st = (B ++ loc ++ o1) ++ args := by rw [h.st]; simp
  obtain ⟨p1, p2⟩ := plain_exec (f := f) hst g2 h1 hM h17
  have hrs : R.st = (BM ++ o1) ++ args := by rw [h.rs]; simp
  obtain ⟨w1, w2⟩ := topW_app (A := BM ++ o1) hal
  have hmem : y.mem = R.mem := h.sim.e.mem
  rw [hmem, hm, he] at p1 p2
  obtain ⟨U, hU⟩ : ∃ U, unitP R.mem c.op c.imm (args.getD 0 ⟨false, 0⟩).n (args.getD 1 ⟨false, 0⟩).n = U := ⟨_, rfl⟩
  rw [hU] at p1 p2
  refine ⟨U.2.2, { R with st := (BM ++ o1) ++ (if U.2.2 = 0 then (sigM c.op).2.1.map (fun t => ⟨tw t, U.2.1⟩) else []), mem := U.1 }, loc, ?_, rfl, ?_⟩
  · unfold stepP plainP
    rw [if_neg (by omega), if_neg (by omega), if_neg (by omega), if_neg (by omega), if_neg (by omega), if_neg (by omega), if_neg (by omega), if_neg (by omega), if_neg (by omega), hrs, w1, w2, if_pos ⟨by rw [List.length_append]; omega, by rw [g2, hsi]⟩]
    dsimp only
    rw [hU]
    rfl
  · by_cases h0 : U.2.2 = 0
    · refine .inl ⟨h0, (VM.setSt { y with mem := U.1 } ((B ++ loc ++ o1) ++ o.map (fun t => ⟨tw t, U.2.1⟩))).next.1, o1 ++ o.map (fun t => ⟨tw t, U.2.1⟩), ?_⟩
      rw [p1 h0]
      refine h.nxt (Z := VM.setSt { y with mem := U.1 } ((B ++ loc ++ o1) ++ o.map (fun t => ⟨tw t, U.2.1⟩))) (ops' := o1 ++ o.map (fun t => ⟨tw t, U.2.1⟩)) rfl ?_ rfl ?_ ?_ ?_
      · show (B ++ loc ++ o1) ++ _ = _; simp
      · exact ⟨⟨h.sim.e.n, rfl, h.sim.e.used, h.sim.e.tr⟩, h.sim.P, h.sim.ak, h.sim.k6⟩
      · show (BM ++ o1) ++ _ = _; rw [if_pos h0, ← hso]; simp
      · rw [h3, List.map_append, g1, List.map_map]
        congr 2
        have : ∀ l : List UInt8, ty2 l → l = l.map (W.t ∘ fun t => (⟨tw t, U.2.1⟩ : W)) := fun l hl => by
          induction l with
          | nil => rfl
          | cons t l ih =>
            rw [List.map_cons, ← ih (fun x hx => hl x (List.mem_cons_of_mem _ hx))]
            congr 1
            rcases hl t List.mem_cons_self with rfl | rfl <;> rfl
        refine this o ?_
        rw [hso]
        exact sigM_ty2 _
    · refine .inr ⟨h0, _, p2 h0, h.sim.e.n, rfl, h.sim.e.used, h.sim.e.tr⟩
theorem fall (h : Frm P k u T B BM FB y R loc ops pc) (hF : Flow P u T) (hf : u.code[pc]? = some ⟨c.op, c.imm, 0, 0⟩) (hM : MemOk y.mem) (hw : well c = true) (hc : 11 ≤ c.op) : Fall P k u T B BM FB y ⟨c.op, c.imm, 0, 0⟩ R pc (stepP R loc c) := by
  have hi := h.iok hF hf
  by_cases h11 : c.op = 11
  · exact fall11 h hi h11 h11
  by_cases h12 : c.op = 12
  · exact fall12 h hi h12 h12
  by_cases h13 : c.op = 13
  · exact fall13 h hi h13 h13 rfl
  by_cases h14 : c.op = 14
  · exact fall14 h hi h14 h14 rfl
  · refine fallP h hi rfl rfl (by omega) hM ?_
    intro h17
    have hwp : wellP c.op c.imm c.tab.length := by unfold well at hw; simpa using hw
    unfold wellP at hwp
    dsimp only at h17 ⊢
    omega
end Go.Wl
