/- Plain: the interpreter and the machine: one thread more; create. -/
import Derived.Test.Qxb6500573aGreatDoorSim32
namespace Go.Sm
open Go Go.Sl Go.Wl Go.Nm Go.Proofs
set_option linter.unusedVariables false
section
variable {K : Cn} {s : RnM} {m : VM} {th : Nat} {S : List Nat} {cn : Int} {ρ : Nat → Option Plc} {fi : Nat → List FI}
theorem Rl.spawn (R : Rl K s m th S cn ρ fi) (h5 : m.vs.threads.length < 5) (fn : Int) : Rl K { s with ths := s.ths ++ [⟨1, fn, 0, [], []⟩] } { m with vs := { m.vs with threads := m.vs.threads ++ [⟨1, fn, [], [], []⟩] } } th S cn ρ (fiUp fi m.vs.threads.length []) := by
  have hc : Chg AllK s.envs ρ m s.envs ρ { m with vs := { m.vs with threads := m.vs.threads ++ [⟨1, fn, [], [], []⟩] } } := Chg.same rfl rfl
  have hln := R.ln
  have hold : ∀ (u : Nat) t, m.vs.threads[u]? = some t → (m.vs.threads ++ [(⟨1, fn, [], [], []⟩ : Th)])[u]? = some t := fun u t h => by
    rw [List.getElem?_append_left (lt_of h)]; exact h
  refine ⟨R.nd, R.dn, R.cr, ?_, R.sp, R.st, ⟨R.sn.1, fun u hu => ?_⟩, R.fu, R.ou, R.fr, R.ts, R.wf, fun i pl hi => ?_, R.ij, fun i u a hi => ?_, ⟨R.cl.1, fun j mc cl g1 g2 => (R.cl.2 j mc cl g1 g2).chg hc⟩, fun u t ht => ?_⟩
  · dsimp only
    rw [List.length_append, List.length_append]
    simp only [List.length_singleton]
    omega
  · obtain ⟨t, q1, q2⟩ := R.sn.2 u hu
    exact ⟨t, hold u t q1, q2⟩
  · obtain ⟨ev, q1, q2⟩ := R.vl i pl hi
    refine ⟨ev, q1, ?_⟩
    cases pl with
    | cel j => exact q2
    | stk u a =>
      obtain ⟨t, w1, w2⟩ := q2
      exact ⟨t, hold u t w1, w2⟩
  · have hl := R.lv i u a hi
    obtain ⟨ev, q1, t, w1, w2⟩ := R.vl i _ hi
    rw [fiUp_ne _ _ (by have := lt_of w1; omega)]
    exact hl
  · have ht : (m.vs.threads ++ [(⟨1, fn, [], [], []⟩ : Th)])[u]? = some t := ht
    by_cases e : u < m.vs.threads.length
    · rw [List.getElem?_append_left e] at ht
      obtain ⟨q, q1, q2⟩ := R.th u t ht
      refine ⟨q, by show (s.ths ++ _)[u]? = _; rw [List.getElem?_append_left (by omega)]; exact q1, q2.st, q2.fn, ?_, q2.bt, ?_⟩
      · rw [fiUp_ne _ _ (by omega)]; exact q2.dp
      · rw [fiUp_ne _ _ (by omega)]; exact q2.tr.chg hc (fun _ _ h => h) fun _ _ => trivial
    · have hu : u = m.vs.threads.length := by
        have := lt_of ht
        rw [List.length_append, List.length_singleton] at this
        omega
      subst hu
      rw [List.getElem?_append_right (Nat.le_refl _), Nat.sub_self] at ht
      injection ht with ht
      subst ht
      refine ⟨⟨1, fn, 0, [], []⟩, ?_, rfl, fun _ => rfl, (by rw [fiUp_at]; rfl), (fun f hf => by cases hf), ?_⟩
      · show (s.ths ++ _)[_]? = _
        rw [← hln.1, List.getElem?_append_right (Nat.le_refl _), Nat.sub_self]
        rfl
      · rw [fiUp_at]
        exact .nil
theorem ms_spawn (h : curOk s) (T : List TkM) (X : List V) (q : ThM) : ({ Go.Sm.ms s T X with ths := (Go.Sm.ms s T X).ths ++ [q] } : RnM) = Go.Sm.ms { s with ths := s.ths ++ [q] } T X := by
  have hl : s.cur.toNat < s.ths.length := by have h1 := h.1; have h2 := h.2; omega
  unfold Go.Sm.ms rset thG
  dsimp only
  rw [List.set_append_left _ _ hl, List.getD_eq_getElem?_getD, List.getD_eq_getElem?_getD, List.getElem?_append_left hl]
end
section
variable {K : Cn} {s : RnM} {m : VM} {S : List Nat} {cn : Int} {ρ : Nat → Option Plc} {fi : Nat → List FI} {c : Cx} {t : Th} {l : List FI} {F : FI} {Tk : List TkM} {W low ops : List V} {n : Int} {e : Option Nat} {T : List TkM} {no w : Nat} {ops' args : List V} {f : V}
theorem call_create (Y : Cl22 K s m S cn ρ fi c t l F Tk W low ops n e T no w ops' args f) (h6 : f.t = 6) (hn : f.n = 8) : Prog K F.w s (.run S c.th cn m) := by
  have va := Y.arg 0
  have hln := Y.R.ln
  obtain ⟨d, hd⟩ := Y.hnd
  have hcur1 : curOk { s with fuel := s.fuel - 1 } := Y.cur
  have hlS : (Go.Sm.ms { s with fuel := s.fuel - 1 } (T ++ Tk) (W ++ (hidV low F.B F.L ++ ops'))).ths.length = s.ths.length := by
    unfold Go.Sm.ms rset
    simp
  have hlM : (upd c { m with vs := { m.vs with fuel := m.vs.fuel - 1 } } t t.stack (F.pc + 1)).vs.threads.length = m.vs.threads.length := by
    unfold upd
    rw [setTh_len]
  by_cases h5 : (args.getD 0 V.nil).t ≠ 5
  · refine Y.thr (v := strV s_call) ?_ ?_
    · rw [if_neg (by omega), if_neg (by omega), if_pos (by omega), hn]
      unfold rbuilt rcreate
      rw [if_neg (by decide), if_neg (by decide), if_neg (by decide), if_neg (by decide), if_neg (by decide), if_neg (by decide), if_neg (by decide), if_pos rfl, if_pos h5]
      rfl
    · unfold callF
      rw [if_neg (by omega), if_neg (by omega), hn]
      unfold callB bCreateM
      rw [if_neg (by decide), if_neg (by decide), if_neg (by decide), if_neg (by decide), if_neg (by decide), if_neg (by decide), if_neg (by decide), if_neg (by decide), if_neg (by decide), if_pos rfl, if_pos h5]
      rfl
  have h5' : (args.getD 0 V.nil).t = 5 := by omega
  have hcl := va.clo h5'
  have hcn := Y.N.run.mi.cn
  have h0 := va.nn
  by_cases h8 : 5 ≤ m.vs.threads.length
  · refine Y.toVw.trap (e := 8) (s1 := Go.Sm.ms { s with fuel := s.fuel - 1 } (T ++ Tk) (W ++ (hidV low F.B F.L ++ ops'))) (m1 := upd c { m with vs := { m.vs with fuel := m.vs.fuel - 1 } } t t.stack (F.pc + 1)) (Y.toVw.apply Y.hT hd Y.hj Y.ho rfl Y.hf ?_) (by show s.fuel - 1 = m.vs.fuel - 1; rw [Y.R.fu]) Y.R.ou rfl ?_ ⟨_, Y.R.ts⟩
    · rw [if_neg (by omega), if_neg (by omega), if_pos (by omega), hn]
      unfold rbuilt rcreate
      rw [if_neg (by decide), if_neg (by decide), if_neg (by decide), if_neg (by decide), if_neg (by decide), if_neg (by decide), if_neg (by decide), if_pos rfl, if_neg h5, if_pos (by rw [hlS]; omega)]
    · rw [Y.hv]
      unfold callF
      rw [if_neg (by omega), if_neg (by omega), hn]
      unfold callB bCreateM
      rw [if_neg (by decide), if_neg (by decide), if_neg (by decide), if_neg (by decide), if_neg (by decide), if_neg (by decide), if_neg (by decide), if_neg (by decide), if_neg (by decide), if_pos rfl, if_neg h5, if_pos (by rw [hlM]; omega)]
      rfl
  · have hb := Y.base
    have hsm := Y.N.small
    have hl : ops.length = ops'.length + 1 + args.length := by rw [Y.ho]; simp; omega
    have es : ({ s with fuel := m.vs.fuel - 1, out := m.vs.out, ts := s.ts } : RnM) = { s with fuel := s.fuel - 1 } := by rw [← Y.R.ou, ← Y.R.fu]
    have R1 := (Y.toVs.glob (fu := m.vs.fuel - 1) (ou := m.vs.out) Y.R.ts (fun _ _ h => h)).loc0 (ops' := ops' ++ [⟨7, (m.vs.threads.length : Int), []⟩, V.nil]) (Y.hk.glob (fun _ _ h => h)) (by rw [List.length_append, Y.hno]; rfl) (tb_app (B := [f] ++ args) (by rw [← List.append_assoc, ← Y.ho]; exact Y.tbs) (by rw [← Y.hno]; exact Y.htb))
    have R2 := R1.spawn (by rw [show (upd c { m with vs := { m.vs with fuel := m.vs.fuel - 1, out := m.vs.out, tabs := m.vs.tabs } } t (low ++ (ops' ++ [⟨7, (m.vs.threads.length : Int), []⟩, V.nil])) (F.pc + 1)).vs.threads.length = m.vs.threads.length from by unfold upd; rw [setTh_len]]; omega) (args.getD 0 V.nil).n
    rw [es] at R2
    have hthc := lt_of Y.ht
    refine Y.toVw.step1 (q := F.pc + 1) (t' := { t with stack := low ++ (ops' ++ [⟨7, (m.vs.threads.length : Int), []⟩, V.nil]), frames := c.fs ++ [{ c.f with pc := ((F.pc + 1 : Nat) : Int) }] }) (Y.toVw.apply Y.hT hd Y.hj Y.ho rfl Y.hf ?_) ?_ ?_ rfl (by exact fun _ _ h => h) R2 (by rw [fiUp_ne _ _ (by unfold upd; rw [setTh_len]; exact Nat.ne_of_lt hthc), fiUp_at])
    · rw [if_neg (by omega), if_neg (by omega), if_pos (by omega), hn]
      unfold rbuilt rcreate
      rw [if_neg (by decide), if_neg (by decide), if_neg (by decide), if_neg (by decide), if_neg (by decide), if_neg (by decide), if_neg (by decide), if_pos rfl, if_neg h5, if_neg (by rw [hlS]; omega), if_pos (by omega), hlS, ms_spawn hcur1]
      have hcur2 : curOk { { s with fuel := s.fuel - 1 } with ths := s.ths ++ [⟨1, (args.getD 0 V.nil).n, 0, [], []⟩] } := by
        have h1 := hcur1
        unfold curOk at h1 ⊢
        dsimp only at h1 ⊢
        rw [List.length_append, List.length_singleton]
        omega
      unfold rfin2
      rw [ms_push hcur2 _ (by simp only [List.length_append]; omega), b1, ms_push hcur2 _ (by simp only [List.length_append, List.length_singleton]; omega), ms_spawn hcur1, hln.1]
      simp only [List.append_assoc, List.cons_append, List.nil_append]
    · rw [Y.hv]
      unfold callF
      rw [if_neg (by omega), if_neg (by omega), hn]
      unfold callB bCreateM spawnM
      rw [if_neg (by decide), if_neg (by decide), if_neg (by decide), if_neg (by decide), if_neg (by decide), if_neg (by decide), if_neg (by decide), if_neg (by decide), if_neg (by decide), if_pos rfl, if_neg h5, if_neg (by rw [hlM]; omega), if_pos (by omega), if_pos (by rw [hlM]; omega), hlM]
      show finM c.th (low ++ ops').length (_, _) _ = _
      refine (fin_x (Z := low ++ ops') (R := [f] ++ args) (t := { t with frames := c.fs ++ [{ c.f with pc := ((F.pc + 1 : Nat) : Int) }] }) ?_ Y.sk2 (by dsimp only; omega) _ _).trans ?_
      · show ((upd c { m with vs := { m.vs with fuel := m.vs.fuel - 1 } } t t.stack (F.pc + 1)).vs.threads ++ _)[c.th]? = _
        rw [List.getElem?_append_left (by rw [hlM]; exact hthc)]
        exact upd_at c { m with vs := { m.vs with fuel := m.vs.fuel - 1 } } Y.ht _ _
      · unfold upd setTh thNew
        dsimp only
        rw [List.set_append_left _ _ (by rw [List.length_set]; exact hthc), List.set_set, List.append_assoc]
    · show ((upd c { m with vs := { m.vs with fuel := m.vs.fuel - 1, out := m.vs.out, tabs := m.vs.tabs } } t _ (F.pc + 1)).vs.threads ++ _)[c.th]? = _
      rw [List.getElem?_append_left (by unfold upd; rw [setTh_len]; exact hthc)]
      exact upd_at c { m with vs := { m.vs with fuel := m.vs.fuel - 1, out := m.vs.out, tabs := m.vs.tabs } } Y.ht _ _
end
end Go.Sm
