/- Plain: the interpreter and the machine: a fresh thread begins. -/
import Derived.Test.Qxb6500573aGreatDoorSim33
namespace Go.Sm
open Go Go.Sl Go.Wl Go.Nm Go.Proofs
set_option linter.unusedVariables false
section
variable {K : Cn} {s : RnM} {m : VM} {th : Nat} {S : List Nat} {cn : Int} {ρ : Nat → Option Plc} {fi : Nat → List FI}
theorem start (hK : Kok K) (R : Rl K s m th S cn ρ fi) (hmw : MW K.g K.PT m) {t : Th} (ht : m.vs.threads[th]? = some t) (hst : t.st = 1) {a : V} (ha : VVm m a) {A : List V} (hA : ∀ i, A.getD i V.nil = [a].getD i V.nil) :
    ∃ m1 s1 w, entryM th a V.nil m = some m1 ∧ renter t.fn A 0 (rset s { thG s with st := 4 }) = some s1 ∧ RR K w s1 (.run S th cn m1) := by
  obtain ⟨m0, t1, c, g1, g2, g3, g4, g5, g6, _, _⟩ := hmw.start ht hst ha
  have hln := R.ln
  have hcn := hmw.mi.cn
  have htn := hmw.mi.tn
  have hthr := R.thg ht
  have hcur := R.curOk
  obtain ⟨w1, w2, w3, w4, w5⟩ : t.stack = [] ∧ t.frames = [] ∧ t.opn = [] ∧ 0 ≤ t.fn ∧ t.fn < m.vs.clos.length := by
    rcases hmw.all th t ht with ⟨_, q⟩ | ⟨q, _⟩ | ⟨q, _⟩
    · exact q
    · omega
    · omega
  have htr := hthr.tr
  rw [w2] at htr
  obtain ⟨z1, z2, z3, z4⟩ := htr.inv0
  have z2 : (thG s).tasks = [] := by simpa using z2
  have hcls := R.cl.1
  obtain ⟨j, hj⟩ : ∃ j : Nat, t.fn = (j : Int) := ⟨t.fn.toNat, by omega⟩
  obtain ⟨cl, hcl'⟩ : ∃ cl, m.vs.clos[j]? = some cl := ⟨_, List.getElem?_eq_getElem (by omega)⟩
  obtain ⟨mc, hmc⟩ : ∃ mc, s.clos[j]? = some mc := ⟨_, List.getElem?_eq_getElem (by omega)⟩
  obtain ⟨hrg, y, up, E, d, fs, ps, e1, e2, hD, hVU⟩ := R.cl.2 j mc cl hmc hcl'
  obtain ⟨mm, hpar⟩ := hD.hp
  obtain ⟨p, hp1, hp2⟩ := pg_lnk hD.hf
  have hpr : K.g.protos[y]? = some p := by rw [hK.g]; exact hp1
  have hpo := (hK.ok.pr y p hpr).np
  have hnp : p.nparams.toNat = ps.length := by have := hp2.np; have := hD.hnp; omega
  have hpn := hK.ok.n
  have hyl := lt_of hpr
  have hcls2 := lt_of hcl'
  -- the machine
  have hent0 : m0 = setTh m th { t with stack := slotsL [a] ps.length p.nslots.toNat, frames := [⟨(j : Int), 0, 0, 0, false⟩] } := by
    unfold enterM getT at g1
    rw [hj, show getI m.vs.clos (j : Int) = some cl from getI_mk (by omega) (by rw [Int.toNat_natCast]; exact hcl'), bind1_some, hmw.mi.pg, e1, show getI K.g.protos (y : Int) = some p from getI_mk (by omega) (by rw [Int.toNat_natCast]; exact hpr), bind1_some, ht, bind1_some, w1, w2, if_pos (by simp; omega), hnp] at g1
    injection g1 with g1
    rw [← g1]
    rfl
  subst hent0
  rw [setTh_at ht] at g2
  injection g2 with g2
  subst g2
  rw [setTh_2] at g6
  have hent : entryM th a V.nil m = some (setTh m th { t with st := 4, stack := slotsL [a] ps.length p.nslots.toNat, frames := [⟨(j : Int), 0, 0, 0, false⟩] }) := by
    unfold entryM
    rw [if_neg (by rw [hmw.mi.en]; simp), if_neg (by omega), valid_ok ha (by omega) (by omega) (by omega), bind1_some, valid_ok VV.nil (by omega) (by omega) (by omega), bind1_some, if_pos rfl, if_pos rfl]
    unfold getT
    rw [ht, bind1_some, if_pos hst, g1, bind1_some, setTh_at ht, bind1_some, setTh_2]
  -- the interpreter
  have hcur1 : Go.Nm.curOk (rset s { thG s with st := 4 }) := curOk_rset hcur _
  have hndG : ∀ n d, Go.Wl.nd K.ns n = some d → ndG (rset s { thG s with st := 4 }) n = some d := fun n d h => by
    unfold Go.Wl.nd at h
    have := hK.nl
    unfold ndG
    rw [show (rset s { thG s with st := 4 }).nodes = K.ns from R.nd.1]
    split at h
    · rename_i q
      rw [if_pos ⟨q, by omega⟩]
      exact h
    · cases h
  have hsame : Go.Sm.ms (rset s { thG s with st := 4 }) [] [] = rset s { thG s with st := 4 } := ms_same hcur1 (by rw [thG_rset hcur]; exact z2) (by rw [thG_rset hcur]; exact z3)
  have hmod := enter_s (K := K) hcur1 (T := []) (X := []) (A := A) (j := j) (pr := 0) (mc := mc) (d := d) (ps := ps) (by simp) (by simp) (by rw [thG_rset hcur]; show -1000000000 ≤ (thG s).depth ∧ (thG s).depth ≤ 1000000000; rw [hthr.dp, z1]; decide) hmc (by show s.clos.length ≤ 24; omega) hndG hD.hd hpar hD.hps.1 hrg R.nd.2
  rw [hsame, thG_rset hcur] at hmod
  have hfin : (rset { rset s { thG s with st := 4 } with envs := (rset s { thG s with st := 4 }).envs ++ parE A ps 0 mc.2 (rset s { thG s with st := 4 }).envs.length } { { thG s with st := 4 } with depth := (thG s).depth + 1, tasks := (⟨1, if mc.1 = 0 then K.root else d.b, 0, parV ps mc.2 (rset s { thG s with st := 4 }).envs.length⟩ :: ⟨3, 0, (([] : List V).length : Int), none⟩ :: []).reverse, vals := [] }) = rset { s with envs := s.envs ++ parE A ps 0 mc.2 s.envs.length } { thG s with st := 4, depth := (thG s).depth + 1, tasks := [(⟨1, if mc.1 = 0 then K.root else d.b, 0, parV ps mc.2 s.envs.length⟩ : TkM), ⟨3, 0, 0, none⟩].reverse, vals := [] } := by
    unfold rset
    dsimp only
    rw [List.set_set]
    rfl
  obtain ⟨blo, bhi, bp1, bp2, bL1, hbb, hbS, hbl, hb0, hb1, hb2⟩ := hD.body
  have hsl := slots_len [a] ps.length p.nslots.toNat
  have hpsn : ps.length ≤ p.nslots.toNat := by omega
  have hNl : (parE A ps 0 mc.2 s.envs.length).length = ps.length := parE_len _ _ _ _ _
  have hno : ∀ x, ¬ Live (fi th) x := fun x hx => by
    rw [z1] at hx
    obtain ⟨G, hG, _⟩ := hx
    cases hG
  have hvo : VOk K.P (s.envs ++ parE A ps 0 mc.2 s.envs.length) (rhoN ρ s.envs.length th 0 (parE A ps 0 mc.2 s.envs.length).length) (setTh m th { t with st := 4, stack := slotsL [a] ps.length p.nslots.toNat, frames := [⟨(j : Int), 0, 0, 0, false⟩] }) th 0 y E up ps (parV ps mc.2 s.envs.length) := by
    have h0 : VOk K.P s.envs (rhoN ρ s.envs.length th 0 (parE A ps 0 mc.2 s.envs.length).length) (setTh m th { t with st := 4, stack := slotsL [a] ps.length p.nslots.toNat, frames := [⟨(j : Int), 0, 0, 0, false⟩] }) th 0 y E up [] mc.2 := VOk.nil hrg fun name hn => (hVU name hn).chg (⟨.refl _, Nat.le_refl _, fun i pl idx hi hp hu => ⟨pl, by rw [rhoN_old hi]; exact hp, hu⟩, fun i u a hi h _ => by rw [rhoN_old hi]; exact h, fun _ _ h => h⟩ : Chg AllK s.envs ρ m s.envs _ _)
    have h1 := VOk.pars A ps [] s.envs 0 mc.2 (fun k hk => by rw [rhoN_new (by rw [hNl]; exact hk)]; simp) h0
    simpa using h1
  have R2 := R.bindT (t := t) (t' := { t with st := 4, stack := slotsL [a] ps.length p.nslots.toNat, frames := [⟨(j : Int), 0, 0, 0, false⟩] })
    (q' := { thG s with st := 4, depth := (thG s).depth + 1, tasks := [(⟨1, if mc.1 = 0 then K.root else d.b, 0, parV ps mc.2 s.envs.length⟩ : TkM), ⟨3, 0, 0, none⟩].reverse, vals := [] })
    (l' := [⟨y, E, none, ps, 0, up, 0, [⟨1, if mc.1 = 0 then K.root else d.b, 0, parV ps mc.2 s.envs.length⟩, ⟨3, 0, 0, none⟩], 1 + (6 * (bhi - blo) + 1), 0, p.nslots.toNat, 0, [], []⟩])
    (news := parE A ps 0 mc.2 s.envs.length) (o := 0) ht (fun x hx => absurd hx (hno x)) (fun i x hi => absurd (R.lv i th x hi) (hno x)) ?_ (parE_wf (es := s.envs) A ps s.envs 0 mc.2 R.wf hrg) ?_
  · subst g5
    refine ⟨_, _, _, hent, by rw [hj, hmod, hfin], .run (l := []) g3 g4 g6 R2 (by rw [fiUp_at]; rfl)⟩
  · intro k ev hk
    have hkl := lt_of hk
    rw [hNl] at hkl
    refine ⟨?_, _, List.mem_singleton.2 rfl, k, ps[k], List.getElem?_eq_getElem hkl, hD.hps.2 _ (List.getElem_mem hkl), rfl⟩
    dsimp only
    rw [Nat.zero_add, slots_at hkl hpsn, parE_at A ps 0 mc.2 _ k ev hk, Nat.zero_add, hA]
  · refine ⟨rfl, (fun q => by cases q), ?_, ?_, ?_⟩
    · show (thG s).depth + 1 = _
      rw [hthr.dp, z1]
      rfl
    · intro f' hf'
      injection hf' with hf'
      rw [← hf']
    · dsimp only
      rw [List.reverse_reverse]
      have hs := TRs.snoc (K := K) (es := s.envs ++ parE A ps 0 mc.2 s.envs.length) (ρ := rhoN ρ s.envs.length th 0 (parE A ps 0 mc.2 s.envs.length).length) (m := setTh m th { t with st := 4, stack := slotsL [a] ps.length p.nslots.toNat, frames := [⟨(j : Int), 0, 0, 0, false⟩] }) (u := th) (S := slotsL [a] ps.length p.nslots.toNat) (aw := 0) (fs := []) (l := []) (Tk := []) (W := []) (f := ⟨(j : Int), 0, 0, 0, false⟩) (F := ⟨y, E, none, ps, 0, up, 0, [⟨1, if mc.1 = 0 then K.root else d.b, 0, parV ps mc.2 s.envs.length⟩, ⟨3, 0, 0, none⟩], 1 + (6 * (bhi - blo) + 1), 0, p.nslots.toNat, 0, [], []⟩) (e := (slotsL [a] ps.length p.nslots.toNat).length) (seg := []) .nil ⟨rfl, ⟨Int.le_refl _, Int.le_refl _⟩, rfl, ⟨cl, p, (show getI m.vs.clos (j : Int) = some cl from getI_mk (by omega) (by rw [Int.toNat_natCast]; exact hcl')), e1, e2, hpr, by dsimp only; omega⟩, hpsn, ?_, ?_, ?_, ?_, ?_, ?_⟩ rfl
      · exact hs
      · dsimp only
        rw [hsl]
        omega
      · dsimp only
        rw [hid_named hD.hps.2, List.take_of_length_le (Nat.le_refl _), List.drop_of_length_le (by rw [hsl]; omega)]
        rfl
      · exact .block hbS (List.prefix_refl _) rfl hbl hvo (by simp only [List.length_singleton]; omega) (.ret hb0 hb1 hb2)
      · dsimp only
        rw [hsl]
        omega
      · intro q hq; cases hq
      · intro q hq; cases hq
end
end Go.Sm
