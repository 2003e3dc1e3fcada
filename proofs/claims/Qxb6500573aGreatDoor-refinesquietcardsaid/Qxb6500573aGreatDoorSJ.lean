/- Plain: the interpreter and the machine: new variables; stores. -/
import Derived.Test.Qxb6500573aGreatDoorSI
namespace Go.Sm
open Go Go.Sl Go.Wl Go.Nm Go.Proofs
set_option linter.unusedVariables false
/-- The places behind new variables of the thread th from the place o on. -/
def rhoN (ρ : Nat → Option Plc) (n0 th o n : Nat) : Nat → Option Plc := fun i => if i < n0 then ρ i else if i < n0 + n then some (.stk th (o + (i - n0))) else none
theorem rhoN_old {ρ : Nat → Option Plc} {n0 th o n i : Nat} (h : i < n0) : rhoN ρ n0 th o n i = ρ i := if_pos h
theorem rhoN_new {ρ : Nat → Option Plc} {n0 th o n j : Nat} (h : j < n) : rhoN ρ n0 th o n (n0 + j) = some (.stk th (o + j)) := by
  unfold rhoN
  rw [if_neg (by omega), if_pos (by omega), show n0 + j - n0 = j from by omega]
theorem rhoN_cases {ρ : Nat → Option Plc} {n0 th o n i : Nat} {pl : Plc} (h : rhoN ρ n0 th o n i = some pl) : (i < n0 ∧ ρ i = some pl) ∨ ∃ j, j < n ∧ i = n0 + j ∧ pl = .stk th (o + j) := by
  unfold rhoN at h
  split at h
  · rename_i q; exact .inl ⟨q, h⟩
  · split at h
    · rename_i q1 q2
      injection h with h
      exact .inr ⟨i - n0, by omega, by omega, h.symm⟩
    · cases h
theorem Chg.new {es news : List EvM} {ρ : Nat → Option Plc} {m m' : VM} {th o n : Nat} (h1 : m'.vs.upix = m.vs.upix) (h2 : m'.vs.cells = m.vs.cells) (h3 : ∀ t k, NxOk m.vs.tabs t k → NxOk m'.vs.tabs t k := by exact fun _ _ h => h) : Chg AllK es ρ m (es ++ news) (rhoN ρ es.length th o n) m' :=
  ⟨.app _ _, by simp, fun i pl idx hi hp hu => ⟨pl, by rw [rhoN_old hi]; exact hp, by unfold UpAt at *; rw [h1, h2]; exact hu⟩, fun i u a hi h _ => by rw [rhoN_old hi]; exact h, h3⟩
section
variable {K : Cn} {s : RnM} {m : VM} {S : List Nat} {cn : Int} {ρ : Nat → Option Plc} {fi : Nat → List FI} {c : Cx} {t : Th} {l : List FI} {F : FI} {Tk : List TkM} {W low ops : List V}
/-- New variables in the next slots. -/
theorem Vs.binds (Y : Vs K s m S cn ρ fi c t l F Tk W low ops) {iv' : List Nat} {nms : List Nm8} {news : List EvM} {br' : Brk} {pc' no' w' : Nat} {tb' : List Nat} {T' : List TkM} {low' ops' : List V} (h1 : low'.length = low.length) (h2 : low'.take F.B = low.take F.B) (h3 : ∀ (k : Nat) nm, F.L[k]? = some nm → nm ≠ [] → low'[F.B + k]? = low[F.B + k]?) (h4 : F.L.length + nms.length ≤ F.nsl)
    (h5 : news.length = nms.length) (h6 : ∀ (j : Nat) nm, nms[j]? = some nm → nm ≠ []) (h7 : ∀ (j : Nat) ev, news[j]? = some ev → low'[F.B + F.L.length + j]? = some ev.v) (h8 : EnvWf (s.envs ++ news))
    (hk : Kt K.ns K.P F.x F.E K.HB (VOk K.P (s.envs ++ news) (rhoN ρ s.envs.length c.th (F.B + F.L.length) nms.length) m c.th F.B F.x F.E F.up) F.h (if c.f.prot = true then 1 else 0) iv' br' (F.L ++ nms) pc' no' tb' T' w') (hno : no' = ops'.length) (htb : ∀ p, p ∈ tb' → ∃ v, ops'[p]? = some v ∧ v.t = 4) (hiv : ∀ q, q ∈ iv' → q + 2 ≤ hidN F.L ∧ NxAt m.vs.tabs (hidV low' F.B F.L) q) :
    Rl K (Go.Sm.ms { s with envs := s.envs ++ news } (T' ++ Tk) (W ++ (hidV low' F.B F.L ++ ops'))) (upd c m t (low' ++ ops') pc') c.th S cn (rhoN ρ s.envs.length c.th (F.B + F.L.length) nms.length) (fiUp fi c.th (l ++ [{ F with L := F.L ++ nms, br := br', pc := pc', T := T', w := w', no := no', tb := tb', iv := iv' }])) := by
  have R := Y.R
  have hc : Chg AllK s.envs ρ m (s.envs ++ news) (rhoN ρ s.envs.length c.th (F.B + F.L.length) nms.length) (upd c m t (low' ++ ops') pc') := Chg.new rfl rfl
  have hlo := Y.lo
  have hfr := Y.fr
  have hll := hfr.ll
  have hr := hfr.r
  have hln := R.ln
  have hlive : ∀ u a, Live (fi u) a → Live (fiUp fi c.th (l ++ [{ F with L := F.L ++ nms, br := br', pc := pc', T := T', w := w', no := no', tb := tb', iv := iv' }]) u) a := fun u a hl => by
    by_cases e : u = c.th
    · subst e
      rw [fiUp_at]
      rw [Y.hfi] at hl
      exact Live.top (F := F) rfl (fun k nm q1 q2 => by dsimp only; rw [List.getElem?_append_left (lt_of q1)]; exact q1) hl
    · rw [fiUp_ne _ _ e]; exact hl
  -- no variable lies in the new slots
  have hfree : ∀ i a, ρ i = some (.stk c.th a) → a < F.B + F.L.length := fun i a hi => by
    obtain ⟨G, hG, s', nm, g1, g2, g3⟩ := Y.hfi ▸ R.lv i c.th a hi
    rcases List.mem_append.1 hG with hG | hG
    · have := Y.trs.lens.2.2.2 G hG
      have := lt_of g1
      omega
    · rw [List.mem_singleton] at hG
      subst hG
      have := lt_of g1
      omega
  refine ⟨R.nd, R.dn, R.cr, ?_, R.sp, R.st, ⟨R.sn.1, fun u hu => ?_⟩, R.fu, R.ou, R.fr, R.ts, h8, fun i pl hi => ?_, fun i j pl hi hj => ?_, fun i u a hi => ?_, ⟨R.cl.1, fun j mc cl g1 g2 => (R.cl.2 j mc cl g1 g2).chg hc⟩, fun u t' ht' => ?_⟩
  · unfold Go.Sm.ms rset upd
    rw [setTh_len]
    simpa using hln
  · obtain ⟨t', q1, q2⟩ := R.sn.2 u hu
    have hne : u ≠ c.th := fun e => by
      have := R.sn.1
      rw [List.nodup_cons] at this
      exact this.1 (e ▸ hu)
    exact ⟨t', by rw [upd_ne _ _ _ _ _ hne]; exact q1, q2⟩
  · rcases rhoN_cases hi with ⟨hlt, hi⟩ | ⟨j, hj, rfl, rfl⟩
    · obtain ⟨ev, q1, q2⟩ := R.vl i pl hi
      refine ⟨ev, by show (s.envs ++ news)[i]? = _; rw [List.getElem?_append_left hlt]; exact q1, ?_⟩
      cases pl with
      | cel j => exact q2
      | stk u a =>
        obtain ⟨t', w1, w2⟩ := q2
        by_cases e : u = c.th
        · subst e
          rw [Y.ht] at w1
          injection w1 with w1
          subst w1
          refine ⟨_, upd_at c m Y.ht _ _, ?_⟩
          dsimp only
          have hl := R.lv i c.th a hi
          rw [Y.hfi] at hl
          rw [Y.sk] at w2
          obtain ⟨G, hG, s', nm, g1, g2, g3⟩ := hl
          rcases List.mem_append.1 hG with hG | hG
          · have := Y.trs.lens.2.2.2 G hG
            have := lt_of g1
            have ha : a < F.B := by omega
            rw [List.getElem?_append_left (by omega)] at w2 ⊢
            rw [← w2]
            exact at_take h2 ha
          · rw [List.mem_singleton] at hG
            subst hG
            have := lt_of g1
            rw [List.getElem?_append_left (by omega)] at w2 ⊢
            rw [g3, h3 s' nm g1 g2, ← g3]
            exact w2
        · exact ⟨t', by rw [upd_ne _ _ _ _ _ e]; exact w1, w2⟩
    · have hj2 : j < news.length := by omega
      refine ⟨news[j], by show (s.envs ++ news)[s.envs.length + j]? = _; rw [List.getElem?_append_right (by omega), Nat.add_sub_cancel_left, List.getElem?_eq_getElem hj2], _, upd_at c m Y.ht _ _, ?_⟩
      dsimp only
      have h9 := h7 j _ (List.getElem?_eq_getElem hj2)
      rw [List.getElem?_append_left (by have := lt_of h9; omega)]
      exact h9
  · rcases rhoN_cases hi with ⟨hlt, hi⟩ | ⟨j1, hj1, rfl, rfl⟩
    · rcases rhoN_cases hj with ⟨hlt2, hj⟩ | ⟨j2, hj2, rfl, rfl⟩
      · exact R.ij i j pl hi hj
      · have := hfree i _ hi
        omega
    · rcases rhoN_cases hj with ⟨hlt2, hj⟩ | ⟨j2, hj2, rfl, e⟩
      · have := hfree j _ hj
        omega
      · injection e with e1 e2
        omega
  · rcases rhoN_cases hi with ⟨hlt, hi⟩ | ⟨j, hj, rfl, e⟩
    · exact hlive u a (R.lv i u a hi)
    · injection e with e1 e2
      subst e1 e2
      rw [fiUp_at]
      obtain ⟨nm, hnm⟩ : ∃ nm, nms[j]? = some nm := ⟨_, List.getElem?_eq_getElem hj⟩
      exact ⟨_, List.mem_append_right _ (List.mem_singleton.2 rfl), F.L.length + j, nm, by dsimp only; rw [List.getElem?_append_right (by omega), Nat.add_sub_cancel_left]; exact hnm, h6 j nm hnm, by dsimp only; omega⟩
  · by_cases e : u = c.th
    · subst e
      rw [upd_at c m Y.ht] at ht'
      injection ht' with ht'
      subst ht'
      refine ⟨_, ms_at (s := { s with envs := s.envs ++ news }) R.cr (show c.th < s.ths.length by omega) _ _, Y.q.st, Y.q.fn, ?_, Bot.pc (by rw [← Y.hfr]; exact Y.q.bt) _, ?_⟩
      · have := Y.q.dp
        rw [fiUp_at]
        show (thG s).depth = _
        simpa using this
      · rw [fiUp_at]
        dsimp only
        rw [List.reverse_reverse]
        have hlow : (low ++ ops).take c.f.ret.toNat = (low' ++ ops').take c.f.ret.toNat := by
          rw [List.take_append_of_le_length (by omega), List.take_append_of_le_length (by omega)]
          have := congrArg (List.take c.f.ret.toNat) h2
          rw [List.take_take, List.take_take, Nat.min_eq_left (by omega)] at this
          exact this.symm
        have htr := Y.trs
        rw [Y.sk] at htr
        refine .snoc (F := { F with L := F.L ++ nms, br := br', pc := pc', T := T', w := w', no := no', tb := tb', iv := iv' }) (f := { c.f with pc := (pc' : Int) }) ((htr.congr hlow (by simp; omega)).chg hc (fun _ _ h => h) fun _ _ => trivial) ⟨hfr.b, hfr.r, rfl, hfr.cl, by dsimp only; rw [List.length_append]; exact h4, ⟨by dsimp only; rw [List.length_append]; omega, Nat.le_refl _⟩, ?_, ?_, by dsimp only; rw [List.length_append, Y.st4, hno]; show _ = _ + 0; omega, by dsimp only; rw [List.take_of_length_le (Nat.le_refl _), show F.B + F.nsl = low'.length from by omega, List.drop_left]; exact htb, fun q hq => ⟨by have := (hiv q hq).1; dsimp only; rw [hidN_app]; omega, (hiv q hq).2.app _⟩⟩ Y.h
        · dsimp only
          rw [List.take_of_length_le (Nat.le_refl _), hidV_low (by rw [List.length_append]; omega), show F.B + F.nsl = low'.length from by omega, List.drop_left, hidV_app]
          have e0 : hidV low' (F.B + F.L.length) nms = [] := by
            have := hidV_len low' nms (F.B + F.L.length)
            have hz : hidN nms = 0 := by
              clear hk h4 h5 h7 this hlive hc hfree
              induction nms with
              | nil => rfl
              | cons a nms ih =>
                simp only [hidN]
                rw [if_neg (h6 0 a rfl), ih fun j nm hj => h6 (j + 1) nm hj]
            rw [hz] at this
            exact List.length_eq_zero_iff.1 this
          rw [e0, List.append_nil]
        · exact hk.mono (b := (F.L ++ nms).length) (fun L e hl hv => hv.chg (Chg.same (m := m) (m' := upd c m t (low' ++ ops') pc') rfl rfl) fun _ _ _ _ => trivial) (Nl.self _)
    · rw [upd_ne _ _ _ _ _ e] at ht'
      obtain ⟨q, q1, q2⟩ := R.th u t' ht'
      refine ⟨q, by rw [ms_ne (s := { s with envs := s.envs ++ news }) R.cr _ _ e]; exact q1, q2.st, q2.fn, ?_, q2.bt, ?_⟩
      · rw [fiUp_ne _ _ e]; exact q2.dp
      · rw [fiUp_ne _ _ e]
        exact q2.tr.chg hc (fun _ _ h => h) fun _ _ => trivial
end
/-- A store to a variable's place. -/
def plSet (m : VM) (pl : Plc) (v : V) : VM := match pl with
  | .stk u a => match m.vs.threads[u]? with
    | some t => setTh m u { t with stack := t.stack.set a v }
    | none => m
  | .cel j => match m.vs.cells[j]? with
    | some e => { m with vs := { m.vs with cells := m.vs.cells.set j { e with v := v } } }
    | none => m
section
variable {K : Cn} {s : RnM} {m : VM} {th : Nat} {S : List Nat} {cn : Int} {ρ : Nat → Option Plc} {fi : Nat → List FI}
theorem UpAt.cset {m : VM} {j : Nat} {e : Ce} {v : V} (he : m.vs.cells[j]? = some e) {idx : Nat} {pl : Plc} (h : UpAt m idx pl) : UpAt { m with vs := { m.vs with cells := m.vs.cells.set j { e with v := v } } } idx pl := by
  obtain ⟨k, ce, h1, h2, h3⟩ := h
  by_cases q : j = k
  · subst q
    rw [he] at h2
    injection h2 with h2
    subst h2
    exact ⟨j, _, h1, List.getElem?_set_self (lt_of he), h3⟩
  · exact ⟨k, ce, h1, by show (m.vs.cells.set j _)[k]? = _; rw [List.getElem?_set_ne q]; exact h2, h3⟩
theorem Rl.store (R : Rl K s m th S cn ρ fi) {i : Nat} {pl : Plc} {ev : EvM} (hi : ρ i = some pl) (he : s.envs[i]? = some ev) (v : V) : Rl K { s with envs := s.envs.set i { ev with v := v } } (plSet m pl v) th S cn ρ fi := by
  have hext : Ext s.envs (s.envs.set i { ev with v := v }) := Ext.set he
  have hwf : EnvWf (s.envs.set i { ev with v := v }) := fun j w hw k hk => by
    by_cases q : i = j
    · subst q
      rw [List.getElem?_set_self (lt_of he)] at hw
      injection hw with hw
      subst hw
      exact R.wf i ev he k hk
    · rw [List.getElem?_set_ne q] at hw
      exact R.wf j w hw k hk
  obtain ⟨ev', he', hpl⟩ := R.vl i pl hi
  cases pl with
  | stk u a =>
    obtain ⟨t, ht, hta⟩ := hpl
    have em : plSet m (.stk u a) v = setTh m u { t with stack := t.stack.set a v } := by simp only [plSet, ht]
    rw [em]
    have hc : Chg AllK s.envs ρ m (s.envs.set i { ev with v := v }) ρ (setTh m u { t with stack := t.stack.set a v }) :=
      ⟨hext, by simp, fun i pl idx _ hp hu => ⟨pl, hp, hu⟩, fun _ _ _ _ h _ => h, fun _ _ h => h⟩
    refine ⟨R.nd, R.dn, R.cr, ?_, R.sp, R.st, ⟨R.sn.1, fun w hw => ?_⟩, R.fu, R.ou, R.fr, R.ts, hwf, fun j pl hj => ?_, R.ij, R.lv, ⟨R.cl.1, fun j mc cl g1 g2 => (R.cl.2 j mc cl g1 g2).chg hc⟩, fun w t' ht' => ?_⟩
    · rw [setTh_len]; exact R.ln
    · obtain ⟨t', q1, q2⟩ := R.sn.2 w hw
      by_cases e : w = u
      · subst e
        rw [ht] at q1
        injection q1 with q1
        subst q1
        exact ⟨_, setTh_at ht, q2⟩
      · exact ⟨t', by rw [setTh_ne e]; exact q1, q2⟩
    · obtain ⟨ev2, q1, q2⟩ := R.vl j pl hj
      by_cases e : i = j
      · subst e
        rw [hi] at hj
        injection hj with hj
        subst hj
        exact ⟨_, List.getElem?_set_self (lt_of he), _, setTh_at ht, by dsimp only; rw [List.getElem?_set_self (lt_of hta)]⟩
      · refine ⟨ev2, by show (s.envs.set i _)[j]? = _; rw [List.getElem?_set_ne e]; exact q1, ?_⟩
        cases pl with
        | cel k => exact q2
        | stk w b =>
          obtain ⟨t', w1, w2⟩ := q2
          by_cases e2 : w = u
          · subst e2
            rw [ht] at w1
            injection w1 with w1
            subst w1
            refine ⟨_, setTh_at ht, ?_⟩
            dsimp only
            have hab : a ≠ b := fun q => e (R.ij i j _ hi (by rw [hj, q]))
            rw [List.getElem?_set_ne hab]; exact w2
          · exact ⟨t', by rw [setTh_ne e2]; exact w1, w2⟩
    · by_cases e : w = u
      · subst e
        rw [setTh_at ht] at ht'
        injection ht' with ht'
        subst ht'
        obtain ⟨q, q1, q2⟩ := R.th w t ht
        refine ⟨q, q1, q2.st, q2.fn, q2.dp, q2.bt, ?_⟩
        dsimp only
        rw [List.length_set]
        exact (q2.tr.chg hc (fun _ _ h => h) fun _ _ => trivial).poke v (R.lv i w a hi)
      · rw [setTh_ne e] at ht'
        obtain ⟨q, q1, q2⟩ := R.th w t' ht'
        exact ⟨q, q1, q2.st, q2.fn, q2.dp, q2.bt, q2.tr.chg hc (fun _ _ h => h) fun _ _ => trivial⟩
  | cel k =>
    obtain ⟨ce, hce, hth, hcv⟩ := hpl
    have em : plSet m (.cel k) v = { m with vs := { m.vs with cells := m.vs.cells.set k { ce with v := v } } } := by simp only [plSet, hce]
    rw [em]
    have hc : Chg AllK s.envs ρ m (s.envs.set i { ev with v := v }) ρ { m with vs := { m.vs with cells := m.vs.cells.set k { ce with v := v } } } :=
      ⟨hext, by simp, fun i pl idx _ hp hu => ⟨pl, hp, hu.cset hce⟩, fun _ _ _ _ h _ => h, fun _ _ h => h⟩
    refine ⟨R.nd, R.dn, R.cr, R.ln, R.sp, R.st, R.sn, R.fu, R.ou, R.fr, R.ts, hwf, fun j pl hj => ?_, R.ij, R.lv, ⟨R.cl.1, fun j mc cl g1 g2 => (R.cl.2 j mc cl g1 g2).chg hc⟩, fun w t' ht' => ?_⟩
    · obtain ⟨ev2, q1, q2⟩ := R.vl j pl hj
      by_cases e : i = j
      · subst e
        rw [hi] at hj
        injection hj with hj
        subst hj
        exact ⟨_, List.getElem?_set_self (lt_of he), _, List.getElem?_set_self (lt_of hce), hth, rfl⟩
      · refine ⟨ev2, by show (s.envs.set i _)[j]? = _; rw [List.getElem?_set_ne e]; exact q1, ?_⟩
        cases pl with
        | stk w b => exact q2
        | cel k2 =>
          obtain ⟨e2, w1, w2, w3⟩ := q2
          have hab : k ≠ k2 := fun q => e (R.ij i j _ hi (by rw [hj, q]))
          exact ⟨e2, by show (m.vs.cells.set k _)[k2]? = _; rw [List.getElem?_set_ne hab]; exact w1, w2, w3⟩
    · obtain ⟨q, q1, q2⟩ := R.th w t' ht'
      exact ⟨q, q1, q2.st, q2.fn, q2.dp, q2.bt, q2.tr.chg hc (fun _ _ h => h) fun _ _ => trivial⟩
end
end Go.Sm
