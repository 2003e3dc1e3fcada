/- Plain: the interpreter and the machine go on together: both enter a function. -/
import Derived.Test.Qxb6500573aGreatDoorSim30
namespace Go.Sm
open Go Go.Sl Go.Wl Go.Nm Go.Proofs
set_option linter.unusedVariables false
section
variable {K : Cn} {s : RnM} {m : VM} {S : List Nat} {cn : Int} {ρ : Nat → Option Plc} {fi : Nat → List FI} {c : Cx} {t : Th} {l : List FI} {F : FI} {Tk : List TkM} {W low ops : List V} {n : Int} {e : Option Nat} {T : List TkM} {no w : Nat} {ops' args : List V} {f : V}
theorem Cl22.enter (Y : Cl22 K s m S cn ρ fi c t l F Tk W low ops n e T no w ops' args f) {j : Nat} {A : List V} {pr : Bool} (hj : j < m.vs.clos.length)
    (hm : (if f.t = 5 then (if 8 ≤ (thG s).depth then rraise [100, 101, 112, 116, 104] (Go.Sm.ms { s with fuel := s.fuel - 1 } (T ++ Tk) (W ++ (hidV low F.B F.L ++ ops'))) else if 0 ≤ f.n ∧ f.n < 1000000 then renter f.n args 0 (Go.Sm.ms { s with fuel := s.fuel - 1 } (T ++ Tk) (W ++ (hidV low F.B F.L ++ ops'))) else none)
      else if f.t ≠ 6 then rraise [99, 97, 108, 108] (Go.Sm.ms { s with fuel := s.fuel - 1 } (T ++ Tk) (W ++ (hidV low F.B F.L ++ ops')))
      else if 0 ≤ f.n ∧ f.n < 1000000 then rbuilt f.n (args.getD 0 V.nil) (args.getD 1 V.nil) (Go.Sm.ms { s with fuel := s.fuel - 1 } (T ++ Tk) (W ++ (hidV low F.B F.L ++ ops'))) else none) = renter (j : Int) A (if pr = true then 1 else 0) (Go.Sm.ms { s with fuel := s.fuel - 1 } (T ++ Tk) (W ++ (hidV low F.B F.L ++ ops'))))
    (hb : callF c.th (low ++ ops').length f args (upd c { m with vs := { m.vs with fuel := m.vs.fuel - 1 } } t t.stack (F.pc + 1)) = outE (enterM c.th (j : Int) A (low ++ ops').length pr (upd c { m with vs := { m.vs with fuel := m.vs.fuel - 1 } } t t.stack (F.pc + 1)))) : Prog K F.w s (.run S c.th cn m) := by
  obtain ⟨d0, hd0⟩ := Y.hnd
  have hsm := Y.N.small
  have htl := Y.tlen Y.hT
  have hbase := Y.base
  have hlo := Y.lo
  have hcl := Y.R.cl.1
  have hl : ops.length = ops'.length + 1 + args.length := by rw [Y.ho]; simp; omega
  obtain ⟨cl, hcl'⟩ : ∃ cl, m.vs.clos[j]? = some cl := ⟨_, List.getElem?_eq_getElem hj⟩
  obtain ⟨mc, hmc⟩ : ∃ mc, s.clos[j]? = some mc := ⟨_, List.getElem?_eq_getElem (by omega)⟩
  obtain ⟨hrg, y, up, E, d, fs, ps, e1, e2, hD, hVU⟩ := Y.R.cl.2 j mc cl hmc hcl'
  obtain ⟨mm, hpar⟩ := hD.hp
  obtain ⟨p, hp1, hp2⟩ := pg_lnk hD.hf
  have hpr : K.g.protos[y]? = some p := by rw [Y.kok.g]; exact hp1
  have hpo := (Y.kok.ok.pr y p hpr).np
  have hnp : p.nparams.toNat = ps.length := by have := hp2.np; have := hD.hnp; omega
  have hpn := Y.kok.ok.n
  have hyl := lt_of hpr
  have hcn := Y.N.run.mi.cn
  have hfl := Y.N.thr.fl
  have hflen : t.frames.length = c.fs.length + 1 := by rw [Y.hfr]; simp
  have hdp := Y.q.dp
  have hll := Y.trs.lens.2.2.1
  -- the machine
  have hent : enterM c.th (j : Int) A (low ++ ops').length pr (upd c { m with vs := { m.vs with fuel := m.vs.fuel - 1 } } t t.stack (F.pc + 1)) = some (setTh (upd c { m with vs := { m.vs with fuel := m.vs.fuel - 1 } } t t.stack (F.pc + 1)) c.th { t with stack := t.stack ++ slotsL A ps.length p.nslots.toNat, frames := (c.fs ++ [{ c.f with pc := ((F.pc + 1 : Nat) : Int) }]) ++ [⟨(j : Int), 0, (t.stack.length : Int), ((low ++ ops').length : Int), pr⟩] }) := by
    unfold enterM getT
    rw [show getI (upd c { m with vs := { m.vs with fuel := m.vs.fuel - 1 } } t t.stack (F.pc + 1)).vs.clos (j : Int) = some cl from getI_mk (by omega) (by rw [Int.toNat_natCast]; exact hcl'), bind1_some]
    rw [show getI (upd c { m with vs := { m.vs with fuel := m.vs.fuel - 1 } } t t.stack (F.pc + 1)).pg.protos cl.p = some p from by
      rw [show (upd c { m with vs := { m.vs with fuel := m.vs.fuel - 1 } } t t.stack (F.pc + 1)).pg = K.g from Y.N.run.mi.pg.trans Y.kg, e1]
      exact getI_mk (by omega) (by rw [Int.toNat_natCast]; exact hpr), bind1_some]
    rw [upd_at c { m with vs := { m.vs with fuel := m.vs.fuel - 1 } } Y.ht, bind1_some]
    dsimp only
    rw [if_pos ⟨by omega, by omega, by omega, by rw [List.length_append, List.length_singleton]; omega⟩, hnp]
  have hst : setTh (upd c { m with vs := { m.vs with fuel := m.vs.fuel - 1 } } t t.stack (F.pc + 1)) c.th { t with stack := t.stack ++ slotsL A ps.length p.nslots.toNat, frames := (c.fs ++ [{ c.f with pc := ((F.pc + 1 : Nat) : Int) }]) ++ [⟨(j : Int), 0, (t.stack.length : Int), ((low ++ ops').length : Int), pr⟩] } = setTh { m with vs := { m.vs with fuel := m.vs.fuel - 1 } } c.th { t with stack := t.stack ++ slotsL A ps.length p.nslots.toNat, frames := (c.fs ++ [{ c.f with pc := ((F.pc + 1 : Nat) : Int) }]) ++ [⟨(j : Int), 0, (t.stack.length : Int), ((low ++ ops').length : Int), pr⟩] } := by
    unfold upd
    exact setTh_2
  rw [hst] at hent
  have hv : vstepL c.th m = some (.ok ev0 (setTh { m with vs := { m.vs with fuel := m.vs.fuel - 1 } } c.th { t with stack := t.stack ++ slotsL A ps.length p.nslots.toNat, frames := (c.fs ++ [{ c.f with pc := ((F.pc + 1 : Nat) : Int) }]) ++ [⟨(j : Int), 0, (t.stack.length : Int), ((low ++ ops').length : Int), pr⟩] })) := by
    rw [Y.hv, hb, hent]
    rfl
  -- the interpreter
  have hcur1 : curOk { s with fuel := s.fuel - 1 } := Y.cur
  have hms := Y.toVw.apply Y.hT hd0 Y.hj Y.ho rfl Y.hf (hm.trans (enter_s (K := K) hcur1 (T := T ++ Tk) (X := W ++ (hidV low F.B F.L ++ ops')) (A := A) (j := j) (pr := if pr = true then 1 else 0) (mc := mc) (d := d) (ps := ps) (by simp only [List.length_append]; omega) (by omega) (by show -1000000000 ≤ (thG s).depth ∧ (thG s).depth ≤ 1000000000; rw [hdp, List.length_append, List.length_singleton]; omega) hmc (by show s.clos.length ≤ 24; omega) (fun n d h => Y.nd h) hD.hd hpar hD.hps.1 hrg Y.R.nd.2))
  obtain ⟨blo, bhi, bp1, bp2, bL1, hbb, hbS, hbl, hb0, hb1, hb2⟩ := hD.body
  have hfr := Y.fr
  have hrr := hfr.r
  have hfl1 := hfr.ll
  have hsk2 := Y.sk2
  have hslen : t.stack.length = (low ++ ops').length + 1 + args.length := by rw [hsk2]; simp; omega
  have hlol : (low ++ ops').length = F.B + F.nsl + ops'.length := by rw [List.length_append, hlo]
  have hsl := slots_len A ps.length p.nslots.toNat
  have hpsn : ps.length ≤ p.nslots.toNat := by omega
  have es : ({ s with fuel := m.vs.fuel - 1, out := m.vs.out, ts := s.ts } : RnM) = { s with fuel := s.fuel - 1 } := by rw [← Y.R.ou, ← Y.R.fu]
  have R1 := Y.R.glob (fu := m.vs.fuel - 1) (ou := m.vs.out) (tb := m.vs.tabs) (ts := s.ts) Y.R.ts (fun _ _ h => h)
  have hNl : (parE A ps 0 mc.2 s.envs.length).length = ps.length := parE_len _ _ _ _ _
  have hc : Chg AllK s.envs ρ m (s.envs ++ parE A ps 0 mc.2 s.envs.length) (rhoN ρ s.envs.length c.th t.stack.length (parE A ps 0 mc.2 s.envs.length).length) (setTh { m with vs := { m.vs with fuel := m.vs.fuel - 1 } } c.th { t with stack := t.stack ++ slotsL A ps.length p.nslots.toNat, frames := (c.fs ++ [{ c.f with pc := ((F.pc + 1 : Nat) : Int) }]) ++ [⟨(j : Int), 0, (t.stack.length : Int), ((low ++ ops').length : Int), pr⟩] }) := Chg.new rfl rfl
  have hvo : VOk K.P (s.envs ++ parE A ps 0 mc.2 s.envs.length) (rhoN ρ s.envs.length c.th t.stack.length (parE A ps 0 mc.2 s.envs.length).length) (setTh { m with vs := { m.vs with fuel := m.vs.fuel - 1 } } c.th { t with stack := t.stack ++ slotsL A ps.length p.nslots.toNat, frames := (c.fs ++ [{ c.f with pc := ((F.pc + 1 : Nat) : Int) }]) ++ [⟨(j : Int), 0, (t.stack.length : Int), ((low ++ ops').length : Int), pr⟩] }) c.th t.stack.length y E up ps (parV ps mc.2 s.envs.length) := by
    have h0 : VOk K.P s.envs (rhoN ρ s.envs.length c.th t.stack.length (parE A ps 0 mc.2 s.envs.length).length) (setTh { m with vs := { m.vs with fuel := m.vs.fuel - 1 } } c.th { t with stack := t.stack ++ slotsL A ps.length p.nslots.toNat, frames := (c.fs ++ [{ c.f with pc := ((F.pc + 1 : Nat) : Int) }]) ++ [⟨(j : Int), 0, (t.stack.length : Int), ((low ++ ops').length : Int), pr⟩] }) c.th t.stack.length y E up [] mc.2 := VOk.nil hrg fun name hn => (hVU name hn).chg (⟨.refl _, Nat.le_refl _, fun i pl idx hi hp hu => ⟨pl, by rw [rhoN_old hi]; exact hp, hu⟩, fun i u a hi h _ => by rw [rhoN_old hi]; exact h, fun _ _ h => h⟩ : Chg AllK s.envs ρ m s.envs _ _)
    have h1 := VOk.pars A ps [] s.envs 0 mc.2 (fun k hk => by rw [rhoN_new (by rw [hNl]; exact hk)]; simp) h0
    simpa using h1
  have R2 := R1.bindT (t := t) (t' := { t with stack := t.stack ++ slotsL A ps.length p.nslots.toNat, frames := (c.fs ++ [{ c.f with pc := ((F.pc + 1 : Nat) : Int) }]) ++ [⟨(j : Int), 0, (t.stack.length : Int), ((low ++ ops').length : Int), pr⟩] })
    (q' := { thG s with depth := (thG s).depth + 1, tasks := (⟨1, if mc.1 = 0 then K.root else d.b, 0, parV ps mc.2 s.envs.length⟩ :: ⟨3, if pr = true then 1 else 0, ((W ++ (hidV low F.B F.L ++ ops')).length : Int), none⟩ :: (T ++ Tk)).reverse, vals := W ++ (hidV low F.B F.L ++ ops') })
    (l' := (l ++ [{ F with pc := F.pc + 1, no := no + 2, T := T, w := w }]) ++ [⟨y, E, none, ps, t.stack.length, up, 0, [⟨1, if mc.1 = 0 then K.root else d.b, 0, parV ps mc.2 s.envs.length⟩, ⟨3, if pr = true then 1 else 0, ((W ++ (hidV low F.B F.L ++ ops')).length : Int), none⟩], 1 + (6 * (bhi - blo) + 1), (W ++ (hidV low F.B F.L ++ ops')).length, p.nslots.toNat, 0, [], []⟩])
    (news := parE A ps 0 mc.2 s.envs.length) (o := t.stack.length) Y.ht ?_ ?_ ?_ ?_ ?_
  · -- the end
    obtain ⟨o, g1, g2⟩ := step_ok Y.N.go
    rw [hv] at g1
    injection g1 with g1
    subst g1
    rcases g2 with ⟨_, c', k1, k2, k3, k4, _⟩ | ⟨hE, _⟩
    · rw [es] at R2
      refine Y.toVw.stepN (n := 1) hms (.one (gstep_ok hv)) (Nat.le_refl _) k4 ⟨k1, k2, k3⟩ R2 (fiUp_at _ _ _)
    · rcases hE.kd with (k | k) | k | ⟨k, _⟩ <;> cases k
  · intro a ha
    refine ⟨?_, ?_⟩
    · rw [Y.hfi] at ha
      obtain ⟨G, hG, s', nm, y1, y2, y3⟩ := ha
      rcases List.mem_append.1 hG with hG | hG
      · exact ⟨G, List.mem_append_left _ (List.mem_append_left _ hG), s', nm, y1, y2, y3⟩
      · rw [List.mem_singleton] at hG
        subst hG
        exact ⟨_, List.mem_append_left _ (List.mem_append_right _ (List.mem_singleton.2 rfl)), s', nm, y1, y2, y3⟩
    · have := Y.liveLow ha
      dsimp only
      rw [List.getElem?_append_left (by rw [List.length_append] at hslen; omega)]
  · intro i a hi
    have := Y.liveLow (Y.R.lv i c.th a hi)
    rw [List.length_append] at hslen
    omega
  · intro k ev hk
    have hkl := lt_of hk
    rw [hNl] at hkl
    refine ⟨?_, _, List.mem_append_right _ (List.mem_singleton.2 rfl), k, ps[k], List.getElem?_eq_getElem hkl, hD.hps.2 _ (List.getElem_mem hkl), rfl⟩
    dsimp only
    rw [List.getElem?_append_right (by omega), Nat.add_sub_cancel_left, slots_at hkl hpsn, parE_at A ps 0 mc.2 _ k ev hk, Nat.zero_add]
  · exact parE_wf (es := s.envs) A ps s.envs 0 mc.2 Y.R.wf hrg
  · have htk1 : (t.stack ++ slotsL A ps.length p.nslots.toNat).take (low ++ ops').length = low ++ ops' := by
      rw [hsk2, List.append_assoc, List.take_left]
    have hbt : Bot (c.fs ++ [c.f]) := by rw [← Y.hfr]; exact Y.q.bt
    refine ⟨Y.q.st, Y.q.fn, ?_, ?_, ?_⟩
    · show (thG s).depth + 1 = _
      rw [hdp]
      simp
      omega
    · have hb1 := hbt.pc ((F.pc + 1 : Nat) : Int)
      intro f' hf'
      refine hb1 f' ?_
      dsimp only at hf'
      rw [List.getElem?_append_left (by simp)] at hf'
      exact hf'
    · dsimp only
      rw [List.reverse_reverse, show awOf t.st = 0 from if_pos Y.st4]
      have hseg2 : W ++ (hidV low F.B F.L ++ ops') = (W ++ (hidV low F.B F.L ++ ops')) ++ [] := by rw [List.append_nil]
      have hlow : t.stack.take c.f.ret.toNat = (t.stack ++ slotsL A ps.length p.nslots.toNat).take c.f.ret.toNat := by
        rw [List.take_append_of_le_length (by omega)]
      have h1 : TRs K (s.envs ++ parE A ps 0 mc.2 s.envs.length) (rhoN ρ s.envs.length c.th t.stack.length (parE A ps 0 mc.2 s.envs.length).length) (setTh { m with vs := { m.vs with fuel := m.vs.fuel - 1 } } c.th { t with stack := t.stack ++ slotsL A ps.length p.nslots.toNat, frames := (c.fs ++ [{ c.f with pc := ((F.pc + 1 : Nat) : Int) }]) ++ [⟨(j : Int), 0, (t.stack.length : Int), ((low ++ ops').length : Int), pr⟩] }) c.th (t.stack ++ slotsL A ps.length p.nslots.toNat) 2 (c.fs ++ [{ c.f with pc := ((F.pc + 1 : Nat) : Int) }]) (l ++ [{ F with pc := F.pc + 1, no := no + 2, T := T, w := w }]) (T ++ Tk) (W ++ (hidV low F.B F.L ++ ops')) (low ++ ops').length := by
        refine .snoc (F := { F with pc := F.pc + 1, no := no + 2, T := T, w := w }) (f := { c.f with pc := ((F.pc + 1 : Nat) : Int) }) ((Y.trs.congr hlow (by rw [List.length_append]; omega)).chg hc (fun _ _ h => h) fun _ _ => trivial) ⟨hfr.b, hfr.r, rfl, hfr.cl, hfr.ll, ⟨by dsimp only; omega, Nat.le_trans (show (low ++ ops').length ≤ t.stack.length by omega) (by simp)⟩, ?_, ?_, ?_, ?_, ?_⟩ Y.h
        · dsimp only
          rw [htk1, show F.B + F.nsl = low.length from hlo.symm, List.drop_left]
          rw [hidV_congr (S := t.stack ++ slotsL A ps.length p.nslots.toNat) (S' := low) F.L F.B fun k hk => by
            have := lt_of hk
            rw [List.getElem?_append_left (by rw [List.length_append] at hslen; omega), Y.sk, List.getElem?_append_left (by omega)]]
        · exact Y.hk.mono (b := F.L.length) (fun L e hl hv => hv.chg hc fun _ _ _ _ => trivial) (Nl.self _)
        · dsimp only
          have := Y.hno
          omega
        · dsimp only
          rw [htk1, show F.B + F.nsl = low.length from hlo.symm, List.drop_left]
          exact tb_cut (B := [f] ++ args) (by rw [← List.append_assoc, ← Y.ho]; exact Y.tbs) (by rw [← Y.hno]; exact Y.htb)
        · intro q hq
          exact ⟨(Y.ivs q hq).1, (Y.ivs q hq).2.app _⟩
      conv => arg 11; rw [hseg2]
      refine .snoc (F := ⟨y, E, none, ps, t.stack.length, up, 0, [⟨1, if mc.1 = 0 then K.root else d.b, 0, parV ps mc.2 s.envs.length⟩, ⟨3, if pr = true then 1 else 0, ((W ++ (hidV low F.B F.L ++ ops')).length : Int), none⟩], 1 + (6 * (bhi - blo) + 1), (W ++ (hidV low F.B F.L ++ ops')).length, p.nslots.toNat, 0, [], []⟩) (f := ⟨(j : Int), 0, (t.stack.length : Int), ((low ++ ops').length : Int), pr⟩) (Tk := T ++ Tk) (by rw [Int.toNat_natCast]; exact h1) ⟨rfl, ?_, rfl, ?_, hpsn, ?_, ?_, ?_, ?_, ?_, ?_⟩ rfl
      · dsimp only
        omega
      · exact ⟨cl, p, (show getI m.vs.clos (j : Int) = some cl from getI_mk (by omega) (by rw [Int.toNat_natCast]; exact hcl')), e1, e2, hpr, by dsimp only; omega⟩
      · dsimp only
        rw [List.length_append, hsl]
        omega
      · dsimp only
        rw [hid_named hD.hps.2, List.take_of_length_le (Nat.le_refl _), List.drop_of_length_le (by rw [List.length_append, hsl]; omega)]
        rfl
      · exact .block hbS (List.prefix_refl _) rfl hbl hvo (by simp only [List.length_singleton]; omega) (.ret hb0 hb1 hb2)
      · dsimp only
        rw [List.length_append, hsl]
        omega
      · intro q hq; cases hq
      · intro q hq; cases hq
end
end Go.Sm
