/- Plain: the interpreter and the machine go on together: a thread lies down; another goes on. -/
import Derived.Test.Qxb6500573aGreatDoorSim34
namespace Go.Sm
open Go Go.Sl Go.Wl Go.Nm Go.Proofs
set_option linter.unusedVariables false
theorem resume_x {m : RnM} {a b : V} {u : Nat} {q : ThM} {s2 s3 : RnM} (h7 : a.t = 7) (hg : curOk m ∧ (0 ≤ a.n ∧ a.n < m.ths.length) ∧ (0 ≤ m.sp ∧ m.sp < 5) ∧ (0 ≤ m.first ∧ m.first ≤ 1000000)) (e1 : a.n = (u : Int)) (hq' : (m.ths.getD u thD).st = 1 ∨ (m.ths.getD u thD).st = 2) (h2 : s2 = rset m { thG m with st := 3 }) (hq : s2.ths.getD u thD = q) (h3 : s3 = { s2 with stk := s2.stk.set s2.sp.toNat s2.cur, sp := s2.sp + 1, cur := (u : Int) }) :
    rresume a b m = if q.st = 1 then (if 0 ≤ q.fn ∧ q.fn < 1000000 then renter q.fn [b] 0 (rset { s3 with first := s2.first + 1 } { q with st := 4 }) else none) else rfin2 b V.nil (rset s3 { q with st := 4 }) := by
  obtain ⟨at_, an, as_⟩ := a
  dsimp only at h7 e1 hg
  subst e1
  subst hq
  subst h3
  subst h2
  unfold rresume
  rw [if_neg (fun q => q h7), if_neg (fun q => q hg)]
  show (if (m.ths.getD (u : Int).toNat thD).st ≠ 1 ∧ (m.ths.getD (u : Int).toNat thD).st ≠ 2 then _ else _) = _
  rw [if_neg (by rw [Int.toNat_natCast]; omega)]
  rfl
section
variable {K : Cn} {s : RnM} {m : VM} {th : Nat} {S : List Nat} {cn : Int} {ρ : Nat → Option Plc} {fi : Nat → List FI}
/-- Another thread is resumed. -/
theorem Rl.into (R : Rl K s m th S cn ρ fi) {u : Nat} {tt tu : Th} (ht : m.vs.threads[th]? = some tt) (h3 : tt.st = 3) (hu : m.vs.threads[u]? = some tu) (hu1 : tu.st = 1 ∨ tu.st = 2) : Rl K { s with stk := s.stk.set s.sp.toNat s.cur, sp := s.sp + 1, cur := (u : Int) } m u (th :: S) cn ρ fi := by
  have hf := R.few
  have hsp := R.sp
  refine ⟨R.nd, R.dn, rfl, ⟨R.ln.1, lt_of hu, R.ln.2.2⟩, ?_, ⟨?_, fun k w hk => ?_⟩, ⟨?_, fun w hw => ?_⟩, R.fu, R.ou, R.fr, R.ts, R.wf, R.vl, R.ij, R.lv, R.cl, R.th⟩
  · show s.sp + 1 = _
    rw [hsp, List.length_cons]
    omega
  · show (s.stk.set _ _).length = 5
    rw [List.length_set]
    exact R.st.1
  · show (s.stk.set s.sp.toNat s.cur)[k]? = _
    rw [hsp, Int.toNat_natCast, R.cr]
    rw [List.reverse_cons] at hk
    by_cases hkl : k < S.length
    · rw [List.getElem?_append_left (by simpa using hkl)] at hk
      rw [List.getElem?_set_ne (by omega)]
      exact R.st.2 k w hk
    · have hl := lt_of hk
      rw [List.length_append, List.length_reverse, List.length_singleton] at hl
      have e : k = S.length := by omega
      subst e
      rw [List.getElem?_append_right (by simp)] at hk
      simp at hk
      subst hk
      rw [List.getElem?_set_self (by have := R.st.1; omega)]
  · refine List.nodup_cons.2 ⟨fun hm => ?_, R.sn.1⟩
    rcases List.mem_cons.1 hm with e | e
    · subst e
      rw [ht] at hu
      injection hu with hu
      subst hu
      omega
    · obtain ⟨t2, q1, q2⟩ := R.sn.2 u e
      rw [hu] at q1
      injection q1 with q1
      subst q1
      omega
  · rcases List.mem_cons.1 hw with e | e
    · subst e
      exact ⟨tt, ht, h3⟩
    · exact R.sn.2 w e
theorem Rl.firsts (R : Rl K s m th S cn ρ fi) (x : Int) : Rl K { s with first := x } m th S x ρ fi :=
  ⟨R.nd, R.dn, R.cr, R.ln, R.sp, R.st, R.sn, R.fu, R.ou, rfl, R.ts, R.wf, R.vl, R.ij, R.lv, R.cl, R.th⟩
end
section
variable {K : Cn} {s : RnM} {m : VM} {S : List Nat} {cn : Int} {ρ : Nat → Option Plc} {fi : Nat → List FI} {c : Cx} {t : Th} {l : List FI} {F : FI} {Tk : List TkM} {W low ops : List V} {n : Int} {e : Option Nat} {T : List TkM} {no w : Nat} {ops' args : List V} {f : V}
/-- The thread at hand lies down, awaiting two values. -/
theorem Cl22.park (Y : Cl22 K s m S cn ρ fi c t l F Tk W low ops n e T no w ops' args f) {st' : Int} (hst : st' = 2 ∨ st' = 3) :
    Rl K (rset { s with fuel := s.fuel - 1 } { thG s with st := st', tasks := (T ++ Tk).reverse, vals := W ++ (hidV low F.B F.L ++ ops') }) (setTh { m with vs := { m.vs with fuel := m.vs.fuel - 1 } } c.th { t with st := st', stack := low ++ ops', frames := c.fs ++ [{ c.f with pc := ((F.pc + 1 : Nat) : Int) }] }) c.th S cn ρ (fiUp fi c.th (l ++ [{ F with pc := F.pc + 1, no := no + 2, T := T, w := w }])) := by
  have hlo := Y.lo
  have hfr := Y.fr
  have hrr := hfr.r
  have hfl1 := hfr.ll
  have es : ({ s with fuel := m.vs.fuel - 1, out := m.vs.out, ts := s.ts } : RnM) = { s with fuel := s.fuel - 1 } := by rw [← Y.R.ou, ← Y.R.fu]
  have R1 := Y.R.glob (fu := m.vs.fuel - 1) (ou := m.vs.out) (tb := m.vs.tabs) (ts := s.ts) Y.R.ts (fun _ _ h => h)
  have hc : Chg AllK s.envs ρ m s.envs ρ (setTh { m with vs := { m.vs with fuel := m.vs.fuel - 1 } } c.th { t with st := st', stack := low ++ ops', frames := c.fs ++ [{ c.f with pc := ((F.pc + 1 : Nat) : Int) }] }) := Chg.same rfl rfl
  have R2 := R1.setT (t := t) (t' := { t with st := st', stack := low ++ ops', frames := c.fs ++ [{ c.f with pc := ((F.pc + 1 : Nat) : Int) }] }) (q' := { thG s with st := st', tasks := (T ++ Tk).reverse, vals := W ++ (hidV low F.B F.L ++ ops') }) (l' := l ++ [{ F with pc := F.pc + 1, no := no + 2, T := T, w := w }]) Y.ht ?_ ?_
  · rw [es] at R2
    exact R2
  · intro a ha
    refine ⟨?_, ?_⟩
    · rw [Y.hfi] at ha
      exact Live.top (F := F) rfl (fun k nm q1 q2 => q1) ha
    · have := Y.liveLow ha
      dsimp only
      rw [Y.sk, List.getElem?_append_left (by omega), List.getElem?_append_left (by omega)]
  · have hbt : Bot (c.fs ++ [c.f]) := by rw [← Y.hfr]; exact Y.q.bt
    refine ⟨rfl, fun q => ?_, ?_, hbt.pc _, ?_⟩
    · dsimp only at q
      omega
    · show (thG s).depth = _
      rw [Y.q.dp]
      simp
    · dsimp only
      rw [List.reverse_reverse, show awOf st' = 2 from if_neg (by omega)]
      have hlow : t.stack.take c.f.ret.toNat = (low ++ ops').take c.f.ret.toNat := by
        rw [Y.sk, List.take_append_of_le_length (by omega), List.take_append_of_le_length (by omega)]
      refine .snoc (F := { F with pc := F.pc + 1, no := no + 2, T := T, w := w }) (f := { c.f with pc := ((F.pc + 1 : Nat) : Int) }) ((Y.trs.congr hlow (by rw [List.length_append]; omega)).chg hc (fun _ _ h => h) fun _ _ => trivial) ⟨hfr.b, hfr.r, rfl, hfr.cl, hfr.ll, ⟨by dsimp only; rw [List.length_append]; omega, Nat.le_refl _⟩, ?_, ?_, ?_, ?_, ?_⟩ Y.h
      · dsimp only
        rw [List.take_of_length_le (Nat.le_refl _), show F.B + F.nsl = low.length from hlo.symm, List.drop_left, hidV_low (by omega)]
      · exact Y.hk.mono (b := F.L.length) (fun L e hl hv => hv.chg hc fun _ _ _ _ => trivial) (Nl.self _)
      · dsimp only
        have := Y.hno
        rw [List.length_append]
        omega
      · dsimp only
        rw [List.take_of_length_le (Nat.le_refl _), show F.B + F.nsl = low.length from hlo.symm, List.drop_left]
        exact tb_cut (B := [f] ++ args) (by rw [← List.append_assoc, ← Y.ho]; exact Y.tbs) (by rw [← Y.hno]; exact Y.htb)
      · intro q hq
        exact ⟨(Y.ivs q hq).1, (Y.ivs q hq).2.app _⟩
theorem call_yield (Y : Cl22 K s m S cn ρ fi c t l F Tk W low ops n e T no w ops' args f) (hS : S = [] → c.th = 0) (h6 : f.t = 6) (hn : f.n = 10) : Prog K F.w s (.run S c.th cn m) := by
  have va := Y.arg 0
  have hcr := Y.R.cr
  obtain ⟨d, hd⟩ := Y.hnd
  have hcur1 : curOk { s with fuel := s.fuel - 1 } := Y.cur
  by_cases h0 : c.th = 0
  · refine Y.thr (v := strV s_yield) ?_ ?_
    · rw [if_neg (by omega), if_neg (by omega), if_pos (by omega), hn]
      unfold rbuilt ryield
      rw [if_neg (by decide), if_neg (by decide), if_neg (by decide), if_neg (by decide), if_neg (by decide), if_neg (by decide), if_neg (by decide), if_neg (by decide), if_neg (by decide), if_pos rfl, if_pos (by show s.cur = 0; omega)]
      rfl
    · unfold callF
      rw [if_neg (by omega), if_neg (by omega), hn]
      unfold callB cYield
      rw [if_neg (by decide), if_neg (by decide), if_pos rfl, if_pos (by omega)]
  · cases S with
    | nil => exact absurd (hS rfl) h0
    | cons u S' =>
      have hv : vstepL c.th m = some (.ok ⟨3, 0, 0, args.getD 0 V.nil, V.nil⟩ (setTh { m with vs := { m.vs with fuel := m.vs.fuel - 1 } } c.th { t with st := 2, stack := low ++ ops', frames := c.fs ++ [{ c.f with pc := ((F.pc + 1 : Nat) : Int) }] })) := by
        rw [Y.hv]
        unfold callF
        rw [if_neg (by omega), if_neg (by omega), hn]
        unfold callB cYield getT
        rw [if_neg (by decide), if_neg (by decide), if_pos rfl, if_neg (by omega), upd_at c { m with vs := { m.vs with fuel := m.vs.fuel - 1 } } Y.ht, bind1_some]
        dsimp only
        rw [if_pos (by rw [Y.sk2]; simp only [List.length_append]; omega), Y.sk2, List.take_left]
        unfold upd
        rw [setTh_2]
      obtain ⟨o, g1, g2⟩ := step_ok Y.N.go
      rw [hv] at g1
      injection g1 with g1
      subst g1
      rcases g2 with ⟨q, _⟩ | ⟨hE, _⟩
      · cases q
      have hmw : MW K.g K.PT (setTh { m with vs := { m.vs with fuel := m.vs.fuel - 1 } } c.th { t with st := 2, stack := low ++ ops', frames := c.fs ++ [{ c.f with pc := ((F.pc + 1 : Nat) : Int) }] }) := by
        have := hE.mw
        rw [Y.kg, Y.kp] at this
        exact this
      have RP := Y.park (st' := 2) (.inl rfl)
      have R1 := RP.switch
      obtain ⟨tu, hu1, hu2⟩ := RP.sn.2 u List.mem_cons_self
      have hf := RP.few
      have hsp := RP.sp
      rw [List.length_cons] at hsp hf
      obtain ⟨m1, s1, w', x1, x2, x3⟩ := wake Y.kok R1 hmw hu1 (.inr hu2) (VV.bool true) hE.va
      refine ⟨1, s1, _, w', Y.toVw.apply Y.hT hd Y.hj Y.ho rfl Y.hf ?_, .one ?_, x3, .inl (Nat.le_refl _)⟩
      · rw [if_neg (by omega), if_neg (by omega), if_pos (by omega), hn]
        unfold rbuilt ryield
        rw [if_neg (by decide), if_neg (by decide), if_neg (by decide), if_neg (by decide), if_neg (by decide), if_neg (by decide), if_neg (by decide), if_neg (by decide), if_neg (by decide), if_pos rfl, if_neg (by show ¬ s.cur = 0; omega)]
        have hsp' : s.sp = ((S'.length + 1 : Nat) : Int) := hsp
        rw [if_neg (fun q => q ⟨ms_cur hcur1 _ _, by show 1 ≤ s.sp ∧ s.sp ≤ 5; omega⟩), ms_th hcur1, ms_set hcur1]
        dsimp only
        have hcu := R1.curOk
        exact (if_neg (fun q => q hcu)).trans x2
      · rw [gstep_ev hv (show ¬ (3 : Int) = 0 by decide)]
        unfold gev
        rw [if_neg (show ¬ (3 : Int) = 4 by decide), if_pos rfl, gback_cons]
        have e1 : boolV (decide ((⟨1, args.getD 0 V.nil, 0⟩ : An).k = 1)) = boolV true := rfl
        rw [e1]
        dsimp only
        rw [x1]
        rfl
theorem call_resume (Y : Cl22 K s m S cn ρ fi c t l F Tk W low ops n e T no w ops' args f) (hcn : 0 ≤ cn ∧ cn ≤ 4) (h6 : f.t = 6) (hn : f.n = 9) : Prog K F.w s (.run S c.th cn m) := by
  have va := Y.arg 0
  have vb := Y.arg 1
  have hln := Y.R.ln
  obtain ⟨d, hd⟩ := Y.hnd
  have hcur1 : curOk { s with fuel := s.fuel - 1 } := Y.cur
  by_cases h7 : (args.getD 0 V.nil).t ≠ 7
  · refine Y.thr (v := strV s_co) ?_ ?_
    · rw [if_neg (by omega), if_neg (by omega), if_pos (by omega), hn]
      unfold rbuilt rresume
      rw [if_neg (by decide), if_neg (by decide), if_neg (by decide), if_neg (by decide), if_neg (by decide), if_neg (by decide), if_neg (by decide), if_neg (by decide), if_pos rfl, if_pos h7]
      rfl
    · unfold callF
      rw [if_neg (by omega), if_neg (by omega), hn]
      unfold callB cResume
      rw [if_neg (by decide), if_pos rfl, if_pos h7]
  have h7' : (args.getD 0 V.nil).t = 7 := by omega
  obtain ⟨u, tu, q, e1, e2, e3, e4⟩ := Y.toVw.thv va h7'
  have hu := lt_of e2
  have hfew := Y.R.few
  have hsp := Y.R.sp
  have hfr := Y.R.fr
  have hlS : (Go.Sm.ms { s with fuel := s.fuel - 1 } (T ++ Tk) (W ++ (hidV low F.B F.L ++ ops'))).ths.length = s.ths.length := by
    unfold Go.Sm.ms rset
    simp
  have hS : ∃ q', (Go.Sm.ms { s with fuel := s.fuel - 1 } (T ++ Tk) (W ++ (hidV low F.B F.L ++ ops'))).ths[u]? = some q' ∧ q'.st = tu.st := by
    by_cases hc : u = c.th
    · subst hc
      refine ⟨_, ms_at (s := { s with fuel := s.fuel - 1 }) Y.R.cr (by show c.th < s.ths.length; omega) _ _, ?_⟩
      show (thG s).st = tu.st
      rw [thG_at Y.R.cr e3]
      exact e4.st
    · exact ⟨q, by rw [ms_ne (s := { s with fuel := s.fuel - 1 }) Y.R.cr _ _ hc]; exact e3, e4.st⟩
  have hM : ∃ t', (upd c { m with vs := { m.vs with fuel := m.vs.fuel - 1 } } t t.stack (F.pc + 1)).vs.threads[u]? = some t' ∧ t'.st = tu.st := by
    by_cases hc : u = c.th
    · subst hc
      rw [Y.ht] at e2
      injection e2 with e2
      subst e2
      exact ⟨_, upd_at c { m with vs := { m.vs with fuel := m.vs.fuel - 1 } } Y.ht _ _, rfl⟩
    · exact ⟨tu, by rw [upd_ne _ _ _ _ _ hc]; exact e2, rfl⟩
  obtain ⟨q', s1, s2'⟩ := hS
  obtain ⟨t', m1, m2⟩ := hM
  have hguard : curOk (Go.Sm.ms { s with fuel := s.fuel - 1 } (T ++ Tk) (W ++ (hidV low F.B F.L ++ ops'))) ∧ (0 ≤ (args.getD 0 V.nil).n ∧ (args.getD 0 V.nil).n < (Go.Sm.ms { s with fuel := s.fuel - 1 } (T ++ Tk) (W ++ (hidV low F.B F.L ++ ops'))).ths.length) ∧ (0 ≤ (Go.Sm.ms { s with fuel := s.fuel - 1 } (T ++ Tk) (W ++ (hidV low F.B F.L ++ ops'))).sp ∧ (Go.Sm.ms { s with fuel := s.fuel - 1 } (T ++ Tk) (W ++ (hidV low F.B F.L ++ ops'))).sp < 5) ∧ (0 ≤ (Go.Sm.ms { s with fuel := s.fuel - 1 } (T ++ Tk) (W ++ (hidV low F.B F.L ++ ops'))).first ∧ (Go.Sm.ms { s with fuel := s.fuel - 1 } (T ++ Tk) (W ++ (hidV low F.B F.L ++ ops'))).first ≤ 1000000) := by
    refine ⟨ms_cur hcur1 _ _, by rw [hlS]; omega, ?_, ?_⟩
    · show 0 ≤ s.sp ∧ s.sp < 5
      omega
    · show 0 ≤ s.first ∧ s.first ≤ 1000000
      omega
  have hg1 : (Go.Sm.ms { s with fuel := s.fuel - 1 } (T ++ Tk) (W ++ (hidV low F.B F.L ++ ops'))).ths.getD (args.getD 0 V.nil).n.toNat thD = q' := by
    rw [e1, Int.toNat_natCast, List.getD_eq_getElem?_getD, s1]
    rfl
  have hgm : getI (upd c { m with vs := { m.vs with fuel := m.vs.fuel - 1 } } t t.stack (F.pc + 1)).vs.threads (args.getD 0 V.nil).n = some t' := by
    rw [e1]
    exact getI_mk (x := t') (by have := lt_of m1; omega) (by rw [Int.toNat_natCast]; exact m1)
  by_cases hst : tu.st = 1 ∨ tu.st = 2
  · have hne : u ≠ c.th := fun q => by
      subst q
      rw [Y.ht] at e2
      injection e2 with e2
      have := Y.st4
      rw [e2] at this
      omega
    have hv : vstepL c.th m = some (.ok ⟨4, (u : Int), 0, args.getD 1 V.nil, V.nil⟩ (setTh { m with vs := { m.vs with fuel := m.vs.fuel - 1 } } c.th { t with st := 3, stack := low ++ ops', frames := c.fs ++ [{ c.f with pc := ((F.pc + 1 : Nat) : Int) }] })) := by
      rw [Y.hv]
      unfold callF
      rw [if_neg (by omega), if_neg (by omega), hn]
      unfold callB cResume
      rw [if_neg (by decide), if_pos rfl, if_neg h7, hgm, bind1_some, m2, if_pos hst]
      unfold getT
      rw [upd_at c { m with vs := { m.vs with fuel := m.vs.fuel - 1 } } Y.ht, bind1_some]
      dsimp only
      rw [if_pos (by rw [Y.sk2]; simp only [List.length_append]; omega), Y.sk2, List.take_left, e1]
      unfold upd
      rw [setTh_2]
    obtain ⟨o, g1, g2⟩ := step_ok Y.N.go
    rw [hv] at g1
    injection g1 with g1
    subst g1
    rcases g2 with ⟨q, _⟩ | ⟨hE, _⟩
    · cases q
    have hmw : MW K.g K.PT (setTh { m with vs := { m.vs with fuel := m.vs.fuel - 1 } } c.th { t with st := 3, stack := low ++ ops', frames := c.fs ++ [{ c.f with pc := ((F.pc + 1 : Nat) : Int) }] }) := by
      have := hE.mw
      rw [Y.kg, Y.kp] at this
      exact this
    have htc : (setTh { m with vs := { m.vs with fuel := m.vs.fuel - 1 } } c.th { t with st := 3, stack := low ++ ops', frames := c.fs ++ [{ c.f with pc := ((F.pc + 1 : Nat) : Int) }] }).vs.threads[c.th]? = some { t with st := 3, stack := low ++ ops', frames := c.fs ++ [{ c.f with pc := ((F.pc + 1 : Nat) : Int) }] } := setTh_at (m := { m with vs := { m.vs with fuel := m.vs.fuel - 1 } }) Y.ht
    have htu : (setTh { m with vs := { m.vs with fuel := m.vs.fuel - 1 } } c.th { t with st := 3, stack := low ++ ops', frames := c.fs ++ [{ c.f with pc := ((F.pc + 1 : Nat) : Int) }] }).vs.threads[u]? = some tu := by
      rw [setTh_ne hne]
      exact e2
    obtain ⟨s2, hs2⟩ : ∃ s2 : RnM, s2 = rset { s with fuel := s.fuel - 1 } { thG s with st := 3, tasks := (T ++ Tk).reverse, vals := W ++ (hidV low F.B F.L ++ ops') } := ⟨_, rfl⟩
    have RP := Y.park (st' := 3) (.inr rfl)
    rw [← hs2] at RP
    have R1 := RP.into htc rfl htu hst
    obtain ⟨s3, hs3⟩ : ∃ s3 : RnM, s3 = { s2 with stk := s2.stk.set s2.sp.toNat s2.cur, sp := s2.sp + 1, cur := (u : Int) } := ⟨_, rfl⟩
    rw [← hs3] at R1
    have hgs : ∀ m1 cn', entryM u (args.getD 1 V.nil) V.nil (setTh { m with vs := { m.vs with fuel := m.vs.fuel - 1 } } c.th { t with st := 3, stack := low ++ ops', frames := c.fs ++ [{ c.f with pc := ((F.pc + 1 : Nat) : Int) }] }) = some m1 → (if tu.st = 1 then cn + 1 else cn) = cn' → gstep (.run S c.th cn m) = some (.run (c.th :: S) u cn' m1) := fun m1 cn' x1 x2 => by
      rw [gstep_ev hv (show ¬ (4 : Int) = 0 by decide)]
      unfold gev
      rw [if_pos rfl]
      have e5 : statusV (u : Int) (setTh { m with vs := { m.vs with fuel := m.vs.fuel - 1 } } c.th { t with st := 3, stack := low ++ ops', frames := c.fs ++ [{ c.f with pc := ((F.pc + 1 : Nat) : Int) }] }) = tu.st := by
        unfold statusV
        rw [if_neg (by have := lt_of htu; omega), Int.toNat_natCast, htu]
      dsimp only
      rw [e5, Int.toNat_natCast, x1, x2]
      rfl
    have hthG : thG s3 = q := by
      refine thG_at (by rw [hs3]) ?_
      rw [hs3]
      show s2.ths[u]? = _
      rw [hs2, rset_ne (s := { s with fuel := s.fuel - 1 }) Y.R.cr _ hne]
      exact e3
    have hs2' : s2 = rset (Go.Sm.ms { s with fuel := s.fuel - 1 } (T ++ Tk) (W ++ (hidV low F.B F.L ++ ops'))) { thG (Go.Sm.ms { s with fuel := s.fuel - 1 } (T ++ Tk) (W ++ (hidV low F.B F.L ++ ops'))) with st := 3 } := by
      rw [ms_th hcur1, ms_set hcur1, hs2]
      rfl
    have hq2 : s2.ths.getD u thD = q := by
      rw [hs2, List.getD_eq_getElem?_getD, rset_ne (s := { s with fuel := s.fuel - 1 }) Y.R.cr _ hne, e3]
      rfl
    have hg1' : ((Go.Sm.ms { s with fuel := s.fuel - 1 } (T ++ Tk) (W ++ (hidV low F.B F.L ++ ops'))).ths.getD u thD).st = 1 ∨ ((Go.Sm.ms { s with fuel := s.fuel - 1 } (T ++ Tk) (W ++ (hidV low F.B F.L ++ ops'))).ths.getD u thD).st = 2 := by
      rw [e1, Int.toNat_natCast] at hg1
      rw [hg1, s2']
      exact hst
    have hfir : s2.first = s.first := by rw [hs2]; rfl
    have hmod : ∀ s', (if q.st = 1 then (if 0 ≤ q.fn ∧ q.fn < 1000000 then renter q.fn [args.getD 1 V.nil] 0 (rset { s3 with first := s.first + 1 } { q with st := 4 }) else none) else rfin2 (args.getD 1 V.nil) V.nil (rset s3 { q with st := 4 })) = some s' → MS s s' := fun s' hs' => by
      refine Y.toVw.apply Y.hT hd Y.hj Y.ho rfl Y.hf ?_
      rw [if_neg (by omega), if_neg (by omega), if_pos (by omega), hn]
      unfold rbuilt
      rw [if_neg (by decide), if_neg (by decide), if_neg (by decide), if_neg (by decide), if_neg (by decide), if_neg (by decide), if_neg (by decide), if_neg (by decide), if_pos rfl, resume_x h7' hguard e1 hg1' hs2' hq2 hs3, hfir]
      exact hs'
    rcases hst with h1 | h2
    · have R2 := (R1.firsts (s.first + 1))
      obtain ⟨m9, s9, w9, x1, x2, x3⟩ := start Y.kok R2 hmw htu h1 hE.va (A := [args.getD 1 V.nil]) (fun _ => rfl)
      have hcn1 : s.first + 1 = cn + 1 := by omega
      have hw := hmw.all u tu htu
      have hfn : 0 ≤ tu.fn ∧ tu.fn < 1000000 := by
        rcases hw with ⟨_, _, _, _, w4, w5⟩ | ⟨q, _⟩ | ⟨q, _⟩
        · have := hmw.mi.cn
          exact ⟨w4, by omega⟩
        · omega
        · omega
      have hqf := e4.fn h1
      rw [hcn1] at x3
      refine ⟨1, s9, _, w9, hmod s9 ?_, .one (hgs m9 (cn + 1) x1 (if_pos h1)), x3, .inl (Nat.le_refl _)⟩
      rw [if_pos (by rw [e4.st]; exact h1), if_pos (by rw [hqf]; exact hfn)]
      have hth2 : thG { s3 with first := s.first + 1 } = q := hthG
      rw [hth2, ← hqf] at x2
      exact x2
    · obtain ⟨m9, s9, w9, x1, x2, x3⟩ := wake Y.kok R1 hmw htu (.inl h2) hE.va VV.nil
      refine ⟨1, s9, _, w9, hmod s9 ?_, .one (hgs m9 cn x1 (if_neg (by omega))), x3, .inl (Nat.le_refl _)⟩
      rw [if_neg (by rw [e4.st]; omega)]
      rw [hthG] at x2
      exact x2
  · refine Y.two h6 (by omega) (ou := m.vs.out) (r1 := v1) (r2 := strV (statusName tu.st)) ?_ ?_
    · rw [hn, Y.same]
      unfold rbuilt rresume
      rw [if_neg (by decide), if_neg (by decide), if_neg (by decide), if_neg (by decide), if_neg (by decide), if_neg (by decide), if_neg (by decide), if_neg (by decide), if_pos rfl, if_neg h7, if_neg (fun q => q hguard)]
      dsimp only
      rw [hg1, if_pos (by rw [s2']; omega), s2']
      rfl
    · rw [hn]
      unfold callB cResume
      rw [if_neg (by decide), if_pos rfl, if_neg h7, hgm, bind1_some, m2, if_neg hst]
      rfl
end
end Go.Sm
