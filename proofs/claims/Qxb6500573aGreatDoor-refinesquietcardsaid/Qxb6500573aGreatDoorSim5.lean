/- Plain: the interpreter and the machine go on together: stores. -/
import Derived.Test.Qxb6500573aGreatDoorSim4
namespace Go.Sm
open Go Go.Sl Go.Wl Go.Nm Go.Proofs
set_option linter.unusedVariables false
theorem setT_e {t t2 : Tb} {k v : V} {i e : Int} (h : setT t k v i = some (t2, e)) : e = 0 ∨ e = 8 := by
  unfold setT at h
  dsimp only at h
  split at h
  · split at h
    · injection h with h; injection h with _ h; exact .inl h.symm
    · cases h
  split at h
  · injection h with h; injection h with _ h; exact .inl h.symm
  split at h
  · injection h with h; injection h with _ h; exact .inr h.symm
  split at h
  · cases h
  split at h
  · cases hx : Tb.index { t with order := t.order ++ [(k, v)] } k t.order.length with
    | none => rw [hx] at h; cases h
    | some x => rw [hx] at h; injection h with h; injection h with _ h; exact .inl h.symm
  · cases hx : migM { t with order := t.order ++ [(k, v)], arr := t.arr ++ [(t.order.length : Int)] } with
    | none => rw [hx] at h; cases h
    | some x => rw [hx] at h; injection h with h; injection h with _ h; exact .inl h.symm
theorem setM_num {ts ts2 : List Tb} {j e : Int} {k v : V} (h2 : k.t = 2) (hc : cmpM 2 k.n.toNat k.n.toNat = false) (h : setM ts j k v = some (ts2, e)) : e ≠ 5 ∧ e ≠ 6 := by
  unfold setM at h
  split at h
  · injection h with h; injection h with _ h; omega
  split at h
  · injection h with h; injection h with _ h; omega
  rw [if_neg (by omega), if_neg (fun q => by rw [hc] at q; cases q.2)] at h
  split at h
  · cases h
  · split at h
    · rename_i k2 i _ _
      cases hx : setT (ts.getD j.toNat Tb.empty) k2 v i with
      | none => rw [hx] at h; cases h
      | some x =>
        rw [hx] at h
        injection h with h
        injection h with _ h
        have := setT_e (t2 := x.1) (e := x.2) hx
        omega
    · cases h
theorem findL_keys {k : V} : ∀ {l l' : Row} {i : Nat}, l.map (·.1) = l'.map (·.1) → findL l k i = findL l' k i
  | [], [], _, _ => rfl
  | [], _ :: _, _, h => by simp at h
  | _ :: _, [], _, h => by simp at h
  | a :: l, b :: l', i, h => by
    simp only [List.map_cons, List.cons.injEq] at h
    unfold findL
    rw [h.1, findL_keys h.2]
theorem findL_app {k : V} (x : Row) : ∀ {l : Row} {i : Nat}, 0 ≤ findL l k i → findL (l ++ x) k i = findL l k i
  | [], i, h => by simp [findL] at h
  | a :: l, i, h => by
    rw [List.cons_append]
    unfold findL at h ⊢
    by_cases c : a.1 = k
    · rw [if_pos c, if_pos c]
    · rw [if_neg c] at h
      rw [if_neg c, if_neg c]
      exact findL_app x h
theorem next0 (l : Row) (k : V) : (nextR l k).2.2 = 0 ↔ (k.t ≠ 0 → 0 ≤ findW l k) := by
  unfold nextR
  by_cases c : k.t ≠ 0
  · rw [if_pos c]
    by_cases d : findW l k < 0
    · rw [if_pos d]
      exact ⟨fun q => (by cases q), fun q => absurd (q c) (by omega)⟩
    · rw [if_neg d]
      exact ⟨fun _ _ => by omega, fun _ => rfl⟩
  · rw [if_neg c]
    exact ⟨fun _ q => absurd q c, fun _ => rfl⟩
theorem tsx_ord {a : List Tb} {ts : List Row} (h : TsX a ts) (n : Nat) : (a.getD n Tb.empty).order = ts.getD n [] := by
  rw [h.eq, List.getD_eq_getElem?_getD, List.getD_eq_getElem?_getD, List.getElem?_map]
  cases a[n]? with
  | none => rfl
  | some t => rfl
/-- A store loses no key. -/
theorem nx_set {a b : List Tb} {ts : List Row} {j : Nat} {k v : V} (ha : TsX a ts) (hb : TsX b (setW ts j k v).1) : ∀ t k', NxOk a t k' → NxOk b t k' := fun t k' ⟨h1, h2⟩ => by
  refine ⟨h1, ?_⟩
  rw [tsx_ord ha] at h2
  rw [tsx_ord hb]
  rw [next0] at h2 ⊢
  intro hk
  have h3 := h2 hk
  unfold setW
  split
  · exact h3
  split
  · exact h3
  split
  · exact h3
  · dsimp only
    by_cases c : j = t.n.toNat ∧ j < ts.length
    · obtain ⟨c1, c2⟩ := c
      rw [List.getD_eq_getElem?_getD, ← c1, List.getElem?_set_self c2, Option.getD_some]
      rw [← c1] at h3
      unfold setR
      split
      · dsimp only
        unfold findW at h3 ⊢
        rw [findL_keys (l' := ts.getD j [])]
        · exact h3
        · rw [List.map_set]
          generalize ts.getD j [] = l
          generalize hi : (findL l (normV k) 0).toNat = i
          by_cases hl : i < l.length
          · rw [List.getD_eq_getElem?_getD, List.getElem?_eq_getElem hl, Option.getD_some]
            apply List.ext_getElem?
            intro n
            by_cases e : i = n
            · subst e
              rw [List.getElem?_set_self (by simpa using hl), List.getElem?_map, List.getElem?_eq_getElem hl]
              rfl
            · rw [List.getElem?_set_ne e]
          · rw [List.set_eq_of_length_le (by simpa using hl)]
      split
      · exact h3
      split
      · exact h3
      · unfold findW at h3 ⊢
        rw [findL_app _ h3]
        exact h3
    · have e : (ts.set j (setR (ts.getD j []) k v).1).getD t.n.toNat [] = ts.getD t.n.toNat [] := by
        generalize (setR (ts.getD j []) k v).1 = z
        rw [List.getD_eq_getElem?_getD, List.getD_eq_getElem?_getD]
        by_cases d : j = t.n.toNat
        · rw [List.set_eq_of_length_le (by omega)]
        · rw [List.getElem?_set_ne d]
      rw [e]
      exact h3
def sTs (s : RnM) (ts : List Row) : RnM := { s with ts := ts }
def mTs (m : VM) (tb : List Tb) : VM := { m with vs := { m.vs with tabs := tb } }
section
variable {K : Cn} {s : RnM} {m : VM} {S : List Nat} {cn : Int} {ρ : Nat → Option Plc} {fi : Nat → List FI} {c : Cx} {t : Th} {l : List FI} {F : FI} {Tk : List TkM} {W low ops : List V}
/-- Both throw; fuel, output and tables may have changed. -/
theorem Vw.throwG (Y : Vw K s m S cn ρ fi c t l F Tk W low ops) {q : TkM} {T : List TkM} {d : Nd} {v : V} {ops' S1 : List V} {w : Nat} {br' : Brk} {L' : List Nm8} {pc' no' : Nat} {tb' : List Nat} {fu : Int} {ou : List UInt8} {tb : List Tb} {ts : List Row} {f1 : Fr} (hTs : TsX tb ts) (hx : ∀ t k, NxOk m.vs.tabs t k → NxOk tb t k) (hT : F.T = q :: T) (hq : q.k ≠ 3) (hd : ndG s q.n = some d) (hm : rtask q d (Go.Sm.ms s (T ++ Tk) (W ++ (hidV low F.B F.L ++ ops))) = rthrow v (Go.Sm.ms { s with fuel := fu, out := ou, ts := ts } (T ++ Tk) (W ++ (hidV low F.B F.L ++ ops')))) (ho : ops'.length ≤ ops.length)
    (hv : vstepL c.th m = some (.thr v (setTh { m with vs := { m.vs with fuel := fu, out := ou, tabs := tb } } c.th { t with stack := S1, frames := c.fs ++ [f1] }))) (hf : f1.base = c.f.base ∧ f1.ret = c.f.ret ∧ f1.prot = c.f.prot) (hS : ∀ a, a < low.length → S1[a]? = t.stack[a]?) (k : KtV K s m ρ c F br' L' pc' no' tb' T w) : Prog K F.w s (.run S c.th cn m) := by
  obtain ⟨o, g1, g2⟩ := step_ok Y.N.go
  rw [hv] at g1
  injection g1 with g1
  subst g1
  obtain ⟨c', ty, q1, q2, q3, q4, q5, q6, q7, q8⟩ := g2
  have htl := Y.tlen hT
  have hb := Y.base
  obtain ⟨cfg, s', w', y1, y2, y3⟩ := thrown Y.kok (Y.toVs.glob (fu := fu) (ou := ou) hTs hx) (t1 := { t with stack := S1, frames := c.fs ++ [f1] }) (f1 := f1) rfl hf (fun a ha => hS a (by have := Y.lo; omega)) (fun a ha => hS a (Y.liveLow ha)) ⟨rfl, rfl⟩ q4 ⟨q1.trans Y.kg, q2.trans Y.kp, q3⟩ q5 k.len (X := W ++ (hidV low F.B F.L ++ ops')) (List.prefix_append _ _) (by simp only [List.length_append]; omega) (by omega)
  exact ⟨1, s', cfg, w', Y.task hT hq hd (hm.trans y1), .one (by rw [gstep_thr hv]; exact y2), y3, .inl (Nat.le_refl _)⟩
/-- One step of each; fuel, output and tables may have changed. -/
theorem Vw.stepG (Y : Vw K s m S cn ρ fi c t l F Tk W low ops) {br' : Brk} {pc' no' w' : Nat} {tb' : List Nat} {T' : List TkM} {ops' : List V} {fu : Int} {ou : List UInt8} {tb : List Tb} {ts : List Row} (hTs : TsX tb ts) (hx : ∀ t k, NxOk m.vs.tabs t k → NxOk tb t k) (hm : MS s (Go.Sm.ms { s with fuel := fu, out := ou, ts := ts } (T' ++ Tk) (W ++ (hidV low F.B F.L ++ ops')))) (hv : vstepL c.th m = some (.ok ev0 (upd c { m with vs := { m.vs with fuel := fu, out := ou, tabs := tb } } t (low ++ ops') pc'))) (hk : KtV K s m ρ c F br' F.L pc' no' tb' T' w') (hno : no' = ops'.length) (htb : ∀ p, p ∈ tb' → ∃ v, ops'[p]? = some v ∧ v.t = 4) : Prog K F.w s (.run S c.th cn m) :=
  Y.step1 hm hv (upd_at c { m with vs := { m.vs with fuel := fu, out := ou, tabs := tb } } Y.ht _ _) rfl (fun _ _ h => h) ((Y.toVs.glob hTs hx).loc0 (hk.glob hx) hno htb) (fiUp_at _ _ _)
theorem Vw.setX (Y : Vw K s m S cn ρ fi c t l F Tk W low ops) {j : Int} (hj : 0 ≤ j ∧ j < m.vs.tabs.length) {k v : V} (hk : VVm m k) (hv : VVm m v) : ∃ ts2 e, setM m.vs.tabs j k v = some (ts2, e) ∧ (setW s.ts j.toNat k v).2 = e ∧ TsX ts2 (setW s.ts j.toNat k v).1 ∧ (e = 0 ∨ e = 5 ∨ e = 6 ∨ e = 8) := by
  obtain ⟨ts2, e, h1, h2, h3, h4⟩ := setM_ok Y.N.run.mi.tb hj hk hv
  obtain ⟨w1, w2⟩ := set_all Y.R.ts (j := j.toNat) (by omega) hk hv (by rw [Int.toNat_of_nonneg hj.1]; exact h1)
  exact ⟨ts2, e, h1, w1, w2, h4⟩
/-- A store into a table, on both sides: U is what the interpreter does behind it. -/
theorem Vw.stores (Y : Vw K s m S cn ρ fi c t l F Tk W low ops) {q : TkM} {T T' : List TkM} {d : Nd} {tv k v : V} {ops' : List V} {op x : Int} {br' br2 : Brk} {L2 : List Nm8} {pc2 no' no2 w w' : Nat} {tb' tb2 : List Nat} {U : RnM → Option RnM} (hT : F.T = q :: T) (hq : q.k ≠ 3) (hd : ndG s q.n = some d) (hi : InsAt c F.pc op x) (hc : ¬ (21 ≤ op ∧ op ≤ 24) ∧ op ≠ 26 ∧ op ≠ 27) (htv : VVm m tv) (hk : VVm m k) (hv : VVm m v) (ho : ops'.length ≤ ops.length)
    (hm : rtask q d (Go.Sm.ms s (T ++ Tk) (W ++ (hidV low F.B F.L ++ ops))) = bind1 (rstore tv k v (Go.Sm.ms s (T ++ Tk) (W ++ (hidV low F.B F.L ++ ops')))) fun m2 => if m2.done = false then U m2 else some m2)
    (hp : plainM c.th c.fs.length c.p op x m = bindO (some (tabOfM tv s_index (setTh m c.th { t with stack := low ++ ops' }))) fun h m => storeM h k v m)
    (hU : ∀ s' : RnM, s'.nodes = s.nodes → s'.envs = s.envs → Go.Nm.curOk s' → U (Go.Sm.ms s' (T ++ Tk) (W ++ (hidV low F.B F.L ++ ops'))) = some (Go.Sm.ms s' (T' ++ Tk) (W ++ (hidV low F.B F.L ++ ops'))))
    (hthr : (∀ s' : RnM, ∀ msg, (bind1 (rraise msg s') fun m2 => if m2.done = false then U m2 else some m2) = rraise msg s') ∨ (tv.t = 4 ∧ k.t = 2 ∧ cmpM 2 k.n.toNat k.n.toNat = false))
    (k1 : KtV K s m ρ c F br2 L2 pc2 no2 tb2 T w) (k2 : KtV K s m ρ c F br' F.L (F.pc + 1) no' tb' T' w') (hno : no' = ops'.length) (htb : ∀ p, p ∈ tb' → ∃ v, ops'[p]? = some v ∧ v.t = 4) : Prog K F.w s (.run S c.th cn m) := by
  have hS : ∀ a, a < low.length → (low ++ ops')[a]? = t.stack[a]? := fun a ha => by rw [Y.sk]; exact low_at ha _
  by_cases h4 : tv.t ≠ 4
  · have e1 : rstore tv k v (Go.Sm.ms s (T ++ Tk) (W ++ (hidV low F.B F.L ++ ops'))) = rraise [105, 110, 100, 101, 120] (Go.Sm.ms s (T ++ Tk) (W ++ (hidV low F.B F.L ++ ops'))) := by
      unfold rstore
      rw [if_pos h4]
    have e2 : plainM c.th c.fs.length c.p op x m = some (.thr (strV s_index) (setTh m c.th { t with stack := low ++ ops' })) := by
      rw [hp]
      unfold tabOfM
      rw [if_pos h4]
      rfl
    have hthr := hthr.resolve_right (fun w => h4 w.1)
    exact Y.throw hT hq hd (by rw [hm, e1, hthr]; rfl) ho (Y.plainT (o := .ok () m) hi hc e2) hS k1
  · have h4' : tv.t = 4 := by omega
    obtain ⟨t1, t2, t3⟩ := Y.tab htv h4' (T ++ Tk) (W ++ (hidV low F.B F.L ++ ops'))
    obtain ⟨ts2, e, x1, x2, x3, x4⟩ := Y.setX t2 hk hv
    have htn := Y.N.run.mi.tn
    have es : rstore tv k v (Go.Sm.ms s (T ++ Tk) (W ++ (hidV low F.B F.L ++ ops'))) = if e = 8 then some (rfin 8 [45] (sTs (Go.Sm.ms s (T ++ Tk) (W ++ (hidV low F.B F.L ++ ops'))) (setW s.ts tv.n.toNat k v).1)) else if e ≠ 0 then rraise [107, 101, 121] (sTs (Go.Sm.ms s (T ++ Tk) (W ++ (hidV low F.B F.L ++ ops'))) (setW s.ts tv.n.toNat k v).1) else some (sTs (Go.Sm.ms s (T ++ Tk) (W ++ (hidV low F.B F.L ++ ops'))) (setW s.ts tv.n.toNat k v).1) := by
      unfold rstore
      rw [if_neg h4, if_neg (fun w => w ⟨t3, Y.numr hk⟩)]
      show (if (setW s.ts tv.n.toNat k v).2 = 8 then _ else if (setW s.ts tv.n.toNat k v).2 ≠ 0 then _ else _) = _
      rw [x2]
      rfl
    have em : plainM c.th c.fs.length c.p op x m = if e = 8 then some (.trp 8 (mTs (setTh m c.th { t with stack := low ++ ops' }) ts2)) else if e ≠ 0 then some (.thr (strV [107, 101, 121]) (mTs (setTh m c.th { t with stack := low ++ ops' }) ts2)) else some (.ok () (mTs (setTh m c.th { t with stack := low ++ ops' }) ts2)) := by
      rw [hp]
      unfold tabOfM
      rw [if_neg h4, t1]
      show storeM tv.n k v (setTh m c.th { t with stack := low ++ ops' }) = _
      unfold storeM
      rw [if_pos ⟨t2.1, t2.2, by show m.vs.tabs.length ≤ 1000; omega, hk.nn⟩]
      show bind2 (setM m.vs.tabs tv.n k v) _ = _
      rw [x1, bind2_some]
      rfl
    by_cases h8 : e = 8
    · rw [if_pos h8] at es em
      refine Y.trap (s1 := (sTs (Go.Sm.ms s (T ++ Tk) (W ++ (hidV low F.B F.L ++ ops'))) (setW s.ts tv.n.toNat k v).1)) (m1 := mTs (setTh m c.th { t with stack := low ++ ops' }) ts2) (Y.task hT hq hd ?_) Y.R.fu Y.R.ou rfl (Y.plainX hi hc em) ⟨_, x3⟩
      rw [hm, es, b1, if_neg (by intro q; cases q)]
    · rw [if_neg h8] at es em
      by_cases h0 : e ≠ 0
      · rw [if_pos h0] at es em
        have hthr := hthr.resolve_right (fun w => h0 (by
          have := setM_num w.2.1 w.2.2 x1
          omega))
        refine Y.throwG (v := strV [107, 101, 121]) (fu := s.fuel) (ou := s.out) (f1 := c.f) x3 (nx_set Y.R.ts x3) hT hq hd ?_ ho ?_ ⟨rfl, rfl, rfl⟩ hS k1
        · rw [hm, es, hthr]
          rfl
        · rw [Y.plainT (o := .ok () m) hi hc em, Y.R.fu, Y.R.ou, ← Y.hfr]
          rfl
      · rw [if_neg h0] at es em
        refine Y.stepG (fu := s.fuel) (ou := s.out) x3 (nx_set Y.R.ts x3) (Y.task hT hq hd ?_) ?_ k2 hno htb
        · rw [hm, es, b1, if_pos (show (sTs (Go.Sm.ms s (T ++ Tk) (W ++ (hidV low F.B F.L ++ ops'))) (setW s.ts tv.n.toNat k v).1).done = false from Y.R.dn)]
          exact hU { s with ts := (setW s.ts tv.n.toNat k v).1 } rfl rfl Y.cur
        · rw [Y.N.plainO hi hc em (t1 := { t with stack := low ++ ops' }) (setTh_at Y.ht) Y.hfr, Y.R.fu, Y.R.ou]
          unfold upd mTs setTh
          simp only [List.set_set]
          rfl
theorem sim_stI (Y : Vw K s m S cn ρ fi c t l F Tk W low ops) {e : Option Nat} {T : List TkM} {no w : Nat} (hT : F.T = ⟨10, 0, 0, e⟩ :: T) (hn : F.no = no + 3) (i : insP K.P F.x F.pc = some (12, 0)) (ht : ∀ p, p ∈ F.tb → p < no) (k : KtV K s m ρ c F F.br F.L (F.pc + 1) no F.tb T w) : Prog K F.w s (.run S c.th cn m) := by
  obtain ⟨ops', tv, kv, v, ho⟩ := Y.top3 (Y.need (Y.ins i) (n := 3) rfl)
  have hno := Y.nops
  have hlen : ops.length = ops'.length + 3 := by rw [ho]; simp
  have hbase := Y.base
  have hsm := Y.N.small
  have hsk : t.stack = (low ++ ops') ++ [tv] ++ [kv] ++ [v] := by rw [Y.sk, ho]; simp only [List.append_assoc]
  have hrest : ∀ s' : RnM, s'.done = false → (if s'.done = false then (some s' : Option RnM) else some s') = some s' := fun s' h => by rw [if_pos h]
  refine Y.stores (T' := T) (tv := tv) (k := kv) (v := v) (ops' := ops') (U := some) hT (by intro q; cases q) Y.nd0 (Y.ins i) (by decide) (Y.vv (by rw [ho]; simp)) (Y.vv (by rw [ho]; simp)) (Y.vv (by rw [ho]; simp)) (by omega) ?_ ?_ (fun _ _ _ _ => rfl) (.inl fun s' msg => ?_) k k (by omega) (tb_cut (B := [tv] ++ [kv] ++ [v]) (by rw [← List.append_assoc, ← List.append_assoc, ← ho]; exact Y.tbs) fun p hp => by have := ht p hp; omega)
  · rw [rt10]
    unfold k10
    have p1 := Y.pop (T := T ++ Tk) (ops' := ops' ++ [tv] ++ [kv]) v (by simp only [List.length_append, List.length_singleton]; omega)
    have p2 := Y.pop (T := T ++ Tk) (ops' := ops' ++ [tv]) kv (by simp only [List.length_append, List.length_singleton]; omega)
    have p3 := Y.pop (T := T ++ Tk) (ops' := ops') tv (by omega)
    rw [← ho] at p1
    rw [p1, b2, p2, b2, p3, b2]
    cases rstore tv kv v (Go.Sm.ms s (T ++ Tk) (W ++ (hidV low F.B F.L ++ ops'))) with
    | none => rfl
    | some s' =>
      rw [b1]
      split <;> rfl
  · rw [(Y.N.in79 (Y.ins i)).2.2.2.2.1 rfl]
    unfold pSetT
    have hl : (low ++ ops').length + 3 ≤ 2300 := by rw [hsk] at hsm; simp only [List.length_append, List.length_singleton] at hsm ⊢; omega
    have p1 := pop_x Y.ht hsk (by omega)
    have p2 := pop_x (m := setTh m c.th { t with stack := (low ++ ops') ++ [tv] ++ [kv] }) (th := c.th) (t := { t with stack := (low ++ ops') ++ [tv] ++ [kv] }) (S := (low ++ ops') ++ [tv]) (v := kv) (setTh_at Y.ht) rfl (by dsimp only; rw [List.length_append, List.length_append, List.length_singleton, List.length_singleton]; omega)
    have p3 := pop_x (m := setTh m c.th { t with stack := (low ++ ops') ++ [tv] }) (th := c.th) (t := { t with stack := (low ++ ops') ++ [tv] }) (S := low ++ ops') (v := tv) (setTh_at Y.ht) rfl (by dsimp only; rw [List.length_append, List.length_singleton]; omega)
    rw [setTh_2] at p2 p3
    rw [p1, bind2_some, p2, bind2_some, p3, bind2_some]
  · cases rraise msg s' with
    | none => rfl
    | some s2 =>
      rw [b1]
      split <;> rfl
end
end Go.Sm
