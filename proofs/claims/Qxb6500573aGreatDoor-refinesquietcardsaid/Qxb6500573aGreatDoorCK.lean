/- Plain: one step of the machine; unwinding. -/
import Derived.Test.Qxb6500573aGreatDoorCJ
namespace Go.Wl
open Go Go.Sl Go.Proofs
set_option linter.unusedVariables false
section
variable {c : Cx} {m : VM} {pc : Nat}
theorem mu_ar {F : Int} (h0 : 0 < F) {a b d : Nat} (h : a ≤ b + 65537) (hb : b ≤ d) : (F - 1).toNat * 1000000 + a < F.toNat * 1000000 + d := by
  obtain ⟨n, rfl⟩ : ∃ n : Nat, F = (n : Int) + 1 := ⟨(F - 1).toNat, by omega⟩
  rw [show ((n : Int) + 1 - 1).toNat = n from by omega, show ((n : Int) + 1).toNat = n + 1 from by omega, Nat.succ_mul]
  generalize n * 1000000 = x
  have h1 : a ≤ d + 65537 := Nat.le_trans h (Nat.add_le_add_right hb _)
  have h2 : d + 65537 < 1000000 + d := by rw [Nat.add_comm]; exact Nat.add_lt_add_right (by decide) _
  rw [Nat.add_assoc]
  exact Nat.add_lt_add_left (Nat.lt_of_le_of_lt h1 h2) x
theorem w_mono {a b : Int} (h : a ≤ b) : (65537 - b).toNat ≤ (65537 - a).toNat := Int.toNat_le_toNat (Int.sub_le_sub_left h _)
theorem setTh_set (m : VM) (th : Nat) (t t' : Th) : setTh (setTh m th t) th t' = setTh m th t' := by
  unfold setTh
  simp
set_option maxRecDepth 100000 in
theorem vcall_ok {st l : List Bool} {z : List Nat} {x : Int} (h : RunT c m ⟨st ++ l, z⟩) (hpc : c.f.pc = (pc : Nat) ∧ (pc : Int) < c.p.ncode) (hx : 0 ≤ x ∧ x ≤ 3) (hl : (l.length : Int) = x + 1) (h128 : st.length + l.length ≤ 128) (hn : fall c.p (c.PT c.cl.p.toNat) pc ⟨st ++ [false, false], z⟩) : ∃ o, vcallM c.th c.fs.length x m = some o ∧ SOk c m o := by
  have hp := h.prOk
  have hcd := hp.cd
  have hfu := h.mi.fu
  unfold vcallM
  rcases burn_ok h with ⟨h0, hb⟩ | ⟨h0, hb, h1⟩
  · rw [hb]
    exact ⟨_, rfl, TrpO.of h (.inr (.inl rfl))⟩
  rw [hb]
  show ∃ o, bind1 (getT _ c.th) _ = some o ∧ _
  obtain ⟨t, ht, hR⟩ := h1.run
  have hsm := h1.small ht
  have hsl := hR.sl
  rw [List.length_append] at hsl
  have hst : st.length ≤ 126 := by
    have := falls hp hn
    simp only [List.length_append, List.length_cons, List.length_nil] at this
    omega
  unfold getT
  rw [ht, bind1_some, if_pos (by omega)]
  have hi : ((t.stack.length : Int) - x - 1).toNat < t.stack.length := by omega
  rw [getI_mk (by omega) (List.getElem?_eq_getElem hi), bind1_some]
  obtain ⟨m2, g1, g2, g3⟩ := h1.next hpc.1 (by omega)
  rw [g1, bind1_some]
  have e1 : t.stack.length - x.toNat - 1 = (c.pc ((pc : Int) + 1)).O + st.length := by
    show _ = c.O + st.length
    omega
  have hpc2 : (c.pc ((pc : Int) + 1)).f.pc = ((pc + 1 : Nat) : Int) ∧ ((pc + 1 : Nat) : Int) < (c.pc ((pc : Int) + 1)).p.ncode := ⟨by show (pc : Int) + 1 = _; omega, by have := hn.1; show _ < c.p.ncode; omega⟩
  rw [e1]
  obtain ⟨o, ho, hO⟩ := callF_ok (F := m.vs.fuel - 1) g2 (by omega) (by omega) (by omega) hpc2 hn.2 (by rw [g3.fuel]) (g3.vv (hR.vv _ (List.getElem_mem hi))) (args := t.stack.drop (t.stack.length - x.toNat)) (fun v hv => g3.vv (hR.vv v (List.mem_of_mem_drop hv)))
  refine ⟨o, ho, ?_⟩
  cases o with
  | ok e m' =>
    rcases hO with ⟨q1, c', q2, q3, q4, q5, q6, q7⟩ | q
    · refine .inl ⟨q1, c', q2, q3, q4, q5, ?_⟩
      have q8 : (((c.pc ((pc : Int) + 1)).fs ++ [(c.pc ((pc : Int) + 1)).f]).map wF).sum = (c.fs.map wF).sum + (65537 - ((pc : Int) + 1)).toNat := by
        unfold Cx.pc wF
        simp
      rw [q8] at q7
      rw [mu_c c m, hpc.1, Nat.add_assoc]
      unfold mu
      rw [q6]
      exact mu_ar h0 q7 (Nat.add_le_add_left (w_mono (Int.le_of_lt (Int.lt_succ _))) _)
    · exact .inr ⟨q.1, fun _ => by rw [q.2]; omega⟩
  | thr v m' =>
    obtain ⟨⟨ty, q1⟩, q2⟩ := hO
    exact ⟨c.pc ((pc : Int) + 1), ty, rfl, rfl, rfl, q1, q2, rfl, by show _ ≤ (pc : Int) + 1; omega, by show (pc : Int) + 1 ≤ _; omega⟩
  | trp e m' => exact hO
/-- A return. -/
theorem ret_ok {st : List Bool} {a b : Bool} {z : List Nat} (h : RunT c m ⟨st ++ [a, b], z⟩) (hpc : c.f.pc = (pc : Nat) ∧ (pc : Int) < c.p.ncode) : ∃ o, (bind2 (retM c.th c.fs.length m) fun e m => some (.ok e m)) = some o ∧ SOk c m o := by
  have hcd := h.prOk.cd
  have h' : RunT c m ⟨(st ++ [a]) ++ [b], z⟩ := by rw [List.append_assoc]; exact h
  obtain ⟨v, m1, g1, g2, _, g4, g5⟩ := h'.pop
  obtain ⟨w, m2, q1, q2, _, q4, q5⟩ := g4.pop
  have hv : VVm m2 v := q5.vv (g5.vv g2)
  have hw : VVm m2 w := q5.vv q2
  have hfu : m2.vs.fuel = m.vs.fuel := by rw [q5.fuel, g5.fuel]
  obtain ⟨t, ht, hR⟩ := q4.run
  have hfr : t.frames.length = c.fs.length + 1 := by rw [hR.fr]; simp
  unfold retM
  rw [g1, bind2_some, q1, bind2_some]
  have hgt : getT m2 c.th = some t := ht
  rw [hgt, bind1_some]
  by_cases h1 : (t.frames.length : Int) = 1
  · rw [if_pos h1]
    obtain ⟨m3, k1, k2, k3⟩ := q4.kill
    rw [k1, bind1_some, bind2_some]
    refine ⟨_, rfl, .inr ⟨⟨k2, k3 _ hw, .inl (.inl rfl), ?_, fun q => by dsimp only at q; omega⟩, fun q => by dsimp only at q; omega⟩⟩
    -- the thread's state
    obtain ⟨o', cs, z1, z2, z3, z4⟩ := RunX.closeCore q4 ht 0
    have ht0 : ({ m2 with vs := { m2.vs with cells := cs } } : VM).vs.threads[c.th]? = some t := ht
    unfold killM at k1
    rw [z1, bind1_some] at k1
    unfold getT at k1
    rw [setTh_at ht0, bind1_some, setTh_set] at k1
    injection k1 with k1
    subst k1
    exact ⟨_, setTh_at ht0, fun q => by dsimp only at q; omega, fun q => by dsimp only at q; omega, fun _ => rfl⟩
  · rw [if_neg h1]
    obtain ⟨k, hk⟩ : ∃ k, c.fs.length = k + 1 := ⟨c.fs.length - 1, by omega⟩
    have hat : (c.fs ++ [c.f])[k + 1]? = some c.f := by rw [← hk, List.getElem?_append_right (Nat.le_refl _)]; simp
    have key : ∀ x y : V, VVm m2 x → VVm m2 y → (if c.f.prot = true then [vb1, w] else [w, v]) = [x, y] → ∃ o, (bind2 (bind1 (getF m2 c.th c.fs.length) fun f => bind1 (closeM c.th f.base m2) fun m => bind1 (getF m c.th c.fs.length) fun f => bind1 (getT m c.th) fun t => if 0 ≤ f.ret ∧ f.ret ≤ t.stack.length then
        bind1 (pushM c.th (if f.prot = true then [vb1, w] else [w, v]) (setTh m c.th { t with stack := t.stack.take f.ret.toNat })) fun m => bind1 (getT m c.th) fun t => if 1 ≤ t.frames.length ∧ t.frames.length ≤ 1000000 then some (ev0, setTh m c.th { t with frames := t.frames.take (t.frames.length - 1) }) else none
      else none) fun e m => some (.ok e m)) = some o ∧ SOk c m o := fun x y hx hy hxy => by
      obtain ⟨o', cs, t', c', b1, b2, b3, b4, b5, b6, b7, b8, b9⟩ := q4.back hat hx hy
      rw [ht] at b1
      injection b1 with b1
      subst b1
      have ht0 : ({ m2 with vs := { m2.vs with cells := cs } } : VM).vs.threads[c.th]? = some t := ht
      have hgf : getF (setTh { m2 with vs := { m2.vs with cells := cs } } c.th { t with opn := o' }) c.th c.fs.length = some c.f := by
        unfold getF getT
        rw [setTh_at ht0, bind1_some, hR.fr, List.getElem?_append_right (Nat.le_refl _)]
        simp
      rw [q4.frame, bind1_some, b2, bind1_some, hgf, bind1_some]
      unfold getT
      rw [setTh_at ht0, bind1_some, if_pos b3, setTh_set, hxy]
      unfold pushM getT
      rw [setTh_at ht0, bind1_some]
      have hlt : (t.stack.take c.f.ret.toNat).length + [x, y].length ≤ 1000000 := by rw [List.length_take]; simp only [List.length_cons, List.length_nil]; omega
      have hfl := hR.fl
      rw [if_pos hlt, bind1_some, setTh_set, setTh_at ht0, bind1_some, if_pos (show 1 ≤ t.frames.length ∧ t.frames.length ≤ 1000000 from by omega), bind2_some, setTh_set]
      have hfe : t.frames.take (t.frames.length - 1) = (c.fs ++ [c.f]).take (k + 1) := by rw [hfr, hR.fr, hk]; rfl
      dsimp only
      rw [hfe]
      refine ⟨_, rfl, .inl ⟨rfl, c', b5, b6, b7, b9, ?_⟩⟩
      have hsum : (((c.fs ++ [c.f]).take (k + 1)).map wF).sum = (c.fs.map wF).sum := by rw [List.take_left' hk]
      unfold mu
      rw [b8, hsum]
      show m2.vs.fuel.toNat * 1000000 + _ < _
      rw [hfu]
      simp only [List.map_append, List.sum_append, List.map_cons, List.map_nil, List.sum_cons, List.sum_nil]
      have : 1 ≤ wF c.f := by unfold wF; omega
      omega
    by_cases hpr : c.f.prot = true
    · exact key vb1 w (VV.bool true) hw (by rw [if_pos hpr])
    · exact key w v hw hv (by rw [if_neg hpr])
/-- One step. -/
theorem step_ok (h : Run c m) : ∃ o, vstepL c.th m = some o ∧ SOk c m o := by
  obtain ⟨pc, h1, h2, hR⟩ := h
  obtain ⟨op, x, e1, hx, hI⟩ := step_in hR rfl ⟨h1, h2⟩
  have hp := hR.prOk
  have hcd := hp.cd
  rw [e1]
  have hjump : ∀ {ty : Ty} {m' : VM}, RunT c m' ty → m'.vs.fuel = m.vs.fuel → jmpT c.p (c.PT c.cl.p.toNat) x ty → ∃ o, (bindO (jumpV c.th c.fs.length x m') fun _ m => some (.ok ev0 m)) = some o ∧ SOk c m o := fun {ty m'} hr hf hj => by
    rcases jump_ok hr ⟨h1, h2⟩ hj with q | ⟨m2, q1, q2, q3⟩
    · rw [q]
      exact ⟨_, rfl, TrpO.of hr (.inr (.inl rfl))⟩
    · rw [q1]
      refine ⟨_, rfl, .inl ⟨rfl, c.pc x, rfl, rfl, rfl, q2, ?_⟩⟩
      have : mu c m' = mu c m := by unfold mu; rw [hf]
      omega
  have hnext : ∀ {ty : Ty} {m' : VM}, RunT c m' ty → m'.vs.fuel = m.vs.fuel → fall c.p (c.PT c.cl.p.toNat) pc ty → ∃ o, outE (nextPc c.th c.fs.length m') = some o ∧ SOk c m o := fun {ty m'} hr hf hn => by
    obtain ⟨m2, q1, q2, q3⟩ := hr.nextR ⟨h1, h2⟩ hn
    unfold outE
    rw [q1, bind1_some]
    refine ⟨_, rfl, .inl ⟨rfl, c.pc ((pc : Int) + 1), rfl, rfl, rfl, q2, ?_⟩⟩
    have : mu c m' = mu c m := by unfold mu; rw [hf]
    omega
  have hplain : ¬ (21 ≤ op ∧ op ≤ 24) ∧ op ≠ 26 ∧ op ≠ 27 → ∃ o, (bindO (plainM c.th c.fs.length c.p op x m) fun _ m => outE (nextPc c.th c.fs.length m)) = some o ∧ SOk c m o := fun hc => by
    obtain ⟨o, q1, q2⟩ := plain_ok hR rfl hx hI hc
    rw [q1]
    cases o with
    | ok a m' =>
      obtain ⟨⟨ty, r1, r2⟩, r3⟩ := q2
      exact hnext r1 r3 r2
    | thr v m' =>
      obtain ⟨⟨ty, r1⟩, r2⟩ := q2
      exact ⟨_, rfl, c, ty, rfl, rfl, rfl, r1, r2, rfl, Int.le_refl _, by omega⟩
    | trp e m' => exact ⟨_, rfl, q2⟩
  unfold stepE
  by_cases o21 : op = 21
  · rw [if_pos o21]
    subst o21
    cases hI with
    | jmp hj => exact hjump hR rfl hj
    | lit ho _ _ => omega
    | una ho _ _ => omega
    | jk ho _ _ _ => omega
  rw [if_neg o21]
  by_cases o22 : op = 22
  · rw [if_pos o22]
    subst o22
    cases hI with
    | @jf _ st z a ht hj hn =>
      rw [ht] at hR
      obtain ⟨v, m1, g1, g2, _, g4, g5⟩ := hR.pop
      rw [g1, bind2_some]
      by_cases hv : truthy v = true
      · rw [if_pos hv]; exact hnext g4 g5.fuel hn
      · rw [if_neg hv]; exact hjump g4 g5.fuel hj
    | lit ho _ _ => omega
    | una ho _ _ => omega
    | jk ho _ _ _ => omega
  rw [if_neg o22]
  have hkeep : op = 23 ∨ op = 24 → ∀ fl : Bool, ∃ o, sJmp c.th c.fs.length x fl m = some o ∧ SOk c m o := fun ho fl => by
    have hex : ∃ st z a, c.PT c.cl.p.toNat pc = ⟨st ++ [a], z⟩ ∧ jmpT c.p (c.PT c.cl.p.toNat) x (c.PT c.cl.p.toNat pc) ∧ fall c.p (c.PT c.cl.p.toNat) pc ⟨st, z⟩ := by
      cases hI with
      | @jk _ _ st z a ho ht hj hn => exact ⟨st, z, a, ht, hj, hn⟩
      | lit ho _ _ => omega
      | una ho _ _ => omega
      | _ => omega
    obtain ⟨st, z, a, ht, hj, hn⟩ := hex
    have hR' := hR
    rw [ht] at hR'
    obtain ⟨t, htt, hRt⟩ := hR'.run
    have hsm := hR'.small htt
    have hsl := hRt.sl
    simp only [List.length_append, List.length_cons, List.length_nil] at hsl
    have hi : t.stack.length - 1 < t.stack.length := by omega
    unfold sJmp
    have hgt : getT m c.th = some t := htt
    rw [hgt, bind1_some, if_pos (by omega), List.getElem?_eq_getElem hi, bind1_some]
    by_cases hv : truthy t.stack[t.stack.length - 1] = fl
    · rw [if_pos hv]; exact hjump hR rfl hj
    · rw [if_neg hv]
      obtain ⟨v, m1, g1, g2, _, g4, g5⟩ := hR'.pop
      rw [g1, bind2_some]
      exact hnext g4 g5.fuel hn
  by_cases o23 : op = 23
  · rw [if_pos o23]; exact hkeep (.inl o23) false
  rw [if_neg o23]
  by_cases o24 : op = 24
  · rw [if_pos o24]; exact hkeep (.inr o24) true
  rw [if_neg o24]
  by_cases o26 : op = 26
  · rw [if_pos o26]
    subst o26
    cases hI with
    | @call _ st l z ht hk hl hn =>
      have h128 := (hR.prOk.st pc h2).1
      rw [ht, List.length_append] at h128
      rw [ht] at hR
      exact vcall_ok hR ⟨h1, h2⟩ hk hl h128 hn
    | lit ho _ _ => omega
    | una ho _ _ => omega
    | jk ho _ _ _ => omega
  rw [if_neg o26]
  by_cases o27 : op = 27
  · rw [if_pos o27]
    subst o27
    cases hI with
    | @ret _ st z a b ht =>
      rw [ht] at hR
      exact ret_ok hR ⟨h1, h2⟩
    | lit ho _ _ => omega
    | una ho _ _ => omega
    | jk ho _ _ _ => omega
  rw [if_neg o27]
  exact hplain ⟨by omega, o26, o27⟩
end
end Go.Wl
