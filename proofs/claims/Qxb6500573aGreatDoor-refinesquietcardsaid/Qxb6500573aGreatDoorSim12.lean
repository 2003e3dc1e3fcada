/- Plain: the interpreter and the machine go on together: local functions; breaks. -/
import Derived.Test.Qxb6500573aGreatDoorSim11
namespace Go.Sm
open Go Go.Sl Go.Wl Go.Nm Go.Proofs
set_option linter.unusedVariables false
theorem sp_root {ns : List Nd} {P : List Fs} {lo hi x pc q : Nat} {E : Sco} {L : List Nm8} {n : Int} (h : Sp ns P .ex lo hi x E L pc n q) : n = 0 ∨ (n = (hi : Int) ∧ lo < hi) := by
  have h0 := h.reg
  cases h with
  | blank i => exact .inl rfl
  | index hl hd hk h1 h2 i => have := h1.reg; have := h2.reg; exact .inr ⟨rfl, by omega⟩
  | table hl hd hk i h => have := h.reg; exact .inr ⟨rfl, by omega⟩
  | bin hl hd hk ho h1 h2 i => have := h1.reg; have := h2.reg; exact .inr ⟨rfl, by omega⟩
  | una hl hd hk ho h1 i => have := h1.reg; exact .inr ⟨rfl, by omega⟩
  | log hl hd hk h1 i h2 => have := h1.reg; have := h2.reg; exact .inr ⟨rfl, by omega⟩
  | func hlo hl hd hk hn i hf hp hnp hps hb hv hr => have := hb.reg; exact .inr ⟨rfl, by omega⟩
  | lit hl | num hl | str hl | name hl | call hl => exact .inr ⟨rfl, hl⟩
section
variable {K : Cn} {s : RnM} {m : VM} {S : List Nat} {cn : Int} {ρ : Nat → Option Plc} {fi : Nat → List FI} {c : Cx} {t : Th} {l : List FI} {F : FI} {Tk : List TkM} {W low ops : List V}
theorem sim_locFn (Y : Vw K s m S cn ρ fi c t l F Tk W low ops) {mi m1 lo hi p p1 p2 w : Nat} {d d1 : Nd} {e : Option Nat} {T : List TkM} {L1 Lb : List Nm8} (hT : F.T = ⟨1, (mi : Int), 0, e⟩ :: T) (hn0 : F.no = 0) (h0 : 0 < mi) (hlo : lo < mi) (hhi : mi ≤ hi) (hd : K.ns[mi]? = some d) (hk : d.k = 3) (hs : d.s ≠ []) (hd1 : nd K.ns d.a = some d1) (hk1 : d1.k = 20) (h1 : Sp K.ns K.P .ex lo m1 F.x F.E (F.L ++ [d.s]) F.pc d.a p) (i1 : insP K.P F.x p = some (6, (F.L.length : Int))) (h2 : Sp K.ns K.P (.sts F.br L1) mi hi F.x F.E (F.L ++ [d.s]) (p + 1) d.next p1)
    (lb : Lb <+: F.L) (hz : hidN F.L = hidN Lb) (lv : levS K.P F.x Lb.length L1 p1 p2) (ve : VOf K s m ρ c F F.L e) (hb : T.length + 7 * (hi - lo) ≤ K.HB) (k : KtV K s m ρ c F F.br Lb p2 0 [] T w) : Prog K F.w s (.run S c.th cn m) := by
  have hops := ops0 Y.toVs hn0
  have htl := Y.tlen hT
  have hcur := Y.cur
  have hbase := Y.base
  have hcl := Y.R.cl.1
  have hlo' := Y.lo
  have hn' := Y.hn
  have hll := Y.fr.ll
  have hroot : d.a = (m1 : Int) ∧ lo < m1 := by
    rcases sp_root h1 with q | q
    · rw [q, show (0 : Int) = ((0 : Nat) : Int) from rfl, nd_nat, Y.kok.n0] at hd1
      injection hd1 with hd1
      subst hd1
      cases hk1
    · exact q
  obtain ⟨hr1, hr2⟩ := hroot
  have hd1' : K.ns[m1]? = some d1 := by rw [hr1, nd_nat] at hd1; exact hd1
  rw [hr1] at h1
  obtain ⟨y, f, ps, hn, i, hp, hf, hD⟩ := func_fnd Y.kok h1 hd1' hk1 rfl (by omega)
  subst hp
  obtain ⟨g1, g2⟩ := xclo Y.N (Y.ins i)
  have hm1 : MS s (Go.Sm.ms { s with envs := s.envs ++ [⟨d.s, V.nil, e⟩] } (⟨2, d.a, 0, some s.envs.length⟩ :: ⟨8, (mi : Int), 0, some s.envs.length⟩ :: (T ++ Tk)) (W ++ (hidV low F.B F.L ++ ops))) := by
    refine Y.task hT (by intro q; cases q) (Y.nd (nd_pos hd)) ?_
    rw [rt1, if_pos (by omega)]
    unfold rstmt
    rw [show ndG (Go.Sm.ms s (T ++ Tk) (W ++ (hidV low F.B F.L ++ ops))) (mi : Int) = some d from Y.nd (nd_pos hd), b1, if_neg (by omega), if_neg (by omega), if_pos hk, if_pos (show ∀ i, e = some i → i < (Go.Sm.ms s (T ++ Tk) (W ++ (hidV low F.B F.L ++ ops))).envs.length from ve.rg)]
    show bind1 (rdo 8 (mi : Int) 0 (some s.envs.length) (Go.Sm.ms { s with envs := s.envs ++ [⟨d.s, V.nil, e⟩] } (T ++ Tk) (W ++ (hidV low F.B F.L ++ ops)))) (fun m1 => rdo 2 d.a 0 (some s.envs.length) m1) = _
    have he : ∀ i, some s.envs.length = some i → i < (s.envs ++ [(⟨d.s, V.nil, e⟩ : EvM)]).length := fun i hi => by injection hi with hi; subst hi; simp
    rw [ms_do (s := { s with envs := s.envs ++ [⟨d.s, V.nil, e⟩] }) hcur _ _ _ (by omega) he, b1, ms_do (s := { s with envs := s.envs ++ [⟨d.s, V.nil, e⟩] }) hcur _ _ _ (by simp only [List.length_cons]; omega) he]
  have hm2 : rstep (Go.Sm.ms { s with envs := s.envs ++ [⟨d.s, V.nil, e⟩] } (⟨2, d.a, 0, some s.envs.length⟩ :: ⟨8, (mi : Int), 0, some s.envs.length⟩ :: (T ++ Tk)) (W ++ (hidV low F.B F.L ++ ops))) = (if 24 ≤ s.clos.length then some (rfin 8 [45] (Go.Sm.ms { s with envs := s.envs ++ [⟨d.s, V.nil, e⟩] } (⟨8, (mi : Int), 0, some s.envs.length⟩ :: (T ++ Tk)) (W ++ (hidV low F.B F.L ++ ops)))) else rpush ⟨5, (s.clos.length : Nat), []⟩ (Go.Sm.ms { s with envs := s.envs ++ [⟨d.s, V.nil, e⟩], clos := s.clos ++ [((m1 : Int), some s.envs.length)] } (⟨8, (mi : Int), 0, some s.envs.length⟩ :: (T ++ Tk)) (W ++ (hidV low F.B F.L ++ ops)))) := by
    rw [ms_step (s := { s with envs := s.envs ++ [⟨d.s, V.nil, e⟩] }) hcur (by simp only [List.length_cons]; omega) (by intro q; cases q) (show ndG { s with envs := s.envs ++ [⟨d.s, V.nil, e⟩] } d.a = some d1 from Y.nd hd1), rt2]
    rw [reval_at (by omega) (show ndG (Go.Sm.ms { s with envs := s.envs ++ [⟨d.s, V.nil, e⟩] } _ _) d.a = some d1 from Y.nd hd1)]
    unfold evB
    rw [if_neg (by omega), if_neg (by omega), if_neg (by omega), if_neg (by omega), if_neg (by omega), if_neg (by omega), if_neg (by omega), if_neg (by omega), if_pos hk1]
    show (if 24 ≤ s.clos.length then _ else if ∀ i, some s.envs.length = some i → i < (s.envs ++ [(⟨d.s, V.nil, e⟩ : EvM)]).length then _ else _) = _
    rw [if_pos (show ∀ i, some s.envs.length = some i → i < (s.envs ++ [(⟨d.s, V.nil, e⟩ : EvM)]).length from fun i hi => by injection hi with hi; subst hi; simp), hr1]
    rfl
  by_cases h24 : 24 ≤ m.vs.clos.length
  · rw [if_pos (by omega)] at hm2
    exact Y.trap (e := 8) (s1 := Go.Sm.ms { s with envs := s.envs ++ [⟨d.s, V.nil, e⟩] } (⟨8, (mi : Int), 0, some s.envs.length⟩ :: (T ++ Tk)) (W ++ (hidV low F.B F.L ++ ops))) (m1 := m) (hm1.trans (.one Y.R.dn hm2)) Y.R.fu Y.R.ou rfl (g1 h24) ⟨_, Y.R.ts⟩
  · obtain ⟨o, cs, us, q, q1, q2, q3⟩ := g2 h24
    obtain ⟨pr, pr1, pr2⟩ := pg_lnk hf
    rw [Int.toNat_natCast, Y.kg, Y.kok.g, pr1] at q1
    injection q1 with q1
    subst q1
    rw [Y.kg, Y.kok.g, pr2.ds] at q3
    have hup : c.cl.up.toNat = F.up := by have := Y.hu; omega
    rw [if_neg (by omega), ms_push (s := { s with envs := s.envs ++ [⟨d.s, V.nil, e⟩], clos := s.clos ++ [((m1 : Int), some s.envs.length)] }) hcur _ (by simp only [List.length_append]; omega)] at hm2
    have hcl1 : ∀ i x, getI m.vs.clos i = some x → getI (upd c (mClo m cs us ⟨(y : Int), (m.vs.upix.length : Nat), pr.nup⟩) { t with opn := o } (t.stack ++ [⟨5, (m.vs.clos.length : Nat), []⟩]) (F.pc + 1)).vs.clos i = some x := fun i x h => getI_app h _
    have N1 := Y.N.after q2 (setTh_at (m := mClo m cs us ⟨(y : Int), (m.vs.upix.length : Nat), pr.nup⟩) Y.ht) rfl hcl1
    have hsk : t.stack = low := by rw [Y.sk, hops, List.append_nil]
    obtain ⟨k1, k2, k3, k4⟩ := N1.xsetL (x := (F.L.length : Int)) (Y.ins i1) (S := low) (v := ⟨5, (m.vs.clos.length : Nat), []⟩) (by dsimp only; rw [hsk])
    rw [upd_upd, Int.toNat_natCast, show (c.pc ((F.pc + 1 : Nat) : Int)).B = F.B from Y.hB] at k1
    dsimp only [Cx.pc] at k2 k3 k4
    have hnsl : F.L.length + 1 ≤ F.nsl := by omega
    have N2 := N1.on (X := low.set (F.B + F.L.length) ⟨5, (m.vs.clos.length : Nat), []⟩) (q := F.pc + 2) (by rw [upd_upd]; exact k1)
    rw [upd_upd] at N2
    have ehid : hidV (low.set (F.B + F.L.length) ⟨5, (m.vs.clos.length : Nat), []⟩) F.B F.L = hidV low F.B F.L := hidV_congr _ _ fun k hk => by rw [List.getElem?_set_ne (by have := lt_of hk; omega)]
    have R1 := Y.bind1 (nm := d.s) (v := ⟨5, (m.vs.clos.length : Nat), []⟩) (e := e) (low' := low.set (F.B + F.L.length) ⟨5, (m.vs.clos.length : Nat), []⟩) hs (by simp) (by rw [List.take_set_of_le (by omega)]) (fun k nm h1 h2 => by rw [List.getElem?_set_ne (by have := lt_of h1; omega)]) (by rw [List.getElem?_set_self (by omega)]) ehid hnsl h2 lb hz lv ve (by omega) k
    rw [ehid] at R1
    have ve1 : VOk K.P (s.envs ++ [⟨d.s, ⟨5, (m.vs.clos.length : Nat), []⟩, e⟩]) (rhoN ρ s.envs.length c.th (F.B + F.L.length) 1) m c.th F.B F.x F.E F.up (F.L ++ [d.s]) (some s.envs.length) := VOk.snoc ve (by have := rhoN_new (ρ := ρ) (n0 := s.envs.length) (th := c.th) (o := F.B + F.L.length) (n := 1) (j := 0) (by omega); rw [Nat.add_zero, Nat.add_zero] at this; exact this) (fun i hi => rhoN_old hi)
    have R2 := R1.clo (setTh_at Y.ht) (cs := cs) (us := us) (o := o) (cl := ⟨(y : Int), (m.vs.upix.length : Nat), pr.nup⟩) (mc := ((m1 : Int), some s.envs.length)) ⟨ve1.rg, y, m.vs.upix.length, (F.x, F.L ++ [d.s]) :: F.E, d1, f, ps, rfl, rfl, hD, clo_new Y.kok hf ve1 fun k d' hk' => by
      obtain ⟨w1, w2⟩ := q3 k d' hk'
      rw [hup, Y.hB] at *
      exact ⟨fun h1 => w1 h1 _ rfl rfl, fun h1 pl hpl => w2 h1 pl hpl _ rfl rfl⟩⟩
    have eu : ∀ t2 : Th, setTh (mClo (upd c m t (low.set (F.B + F.L.length) ⟨5, (m.vs.clos.length : Nat), []⟩ ++ []) (F.pc + 1 + 1)) cs us ⟨(y : Int), (m.vs.upix.length : Nat), pr.nup⟩) c.th t2 = setTh (mClo m cs us ⟨(y : Int), (m.vs.upix.length : Nat), pr.nup⟩) c.th t2 := fun t2 => by
      unfold upd setTh mClo
      dsimp only
      rw [List.set_set]
    rw [eu, List.append_nil (low.set (F.B + F.L.length) ⟨5, (m.vs.clos.length : Nat), []⟩)] at R2
    refine Y.stepN (n := 2) (hm1.trans (.step Y.R.dn hm2 (.one Y.R.dn ?_))) (.step (gstep_ok q2) (.one (gstep_ok k1))) (by decide) N2.go ⟨rfl, rfl, rfl⟩ R2 (fiUp_at _ _ _)
    rw [ms_step (s := { s with envs := s.envs ++ [⟨d.s, V.nil, e⟩], clos := s.clos ++ [((m1 : Int), some s.envs.length)] }) hcur (by omega) (by intro q; cases q) (show ndG { s with envs := s.envs ++ [⟨d.s, V.nil, e⟩], clos := s.clos ++ [((m1 : Int), some s.envs.length)] } (mi : Int) = some d from Y.nd (nd_pos hd)), rt8]
    unfold k8
    dsimp only
    rw [ms_pop (s := { s with envs := s.envs ++ [⟨d.s, V.nil, e⟩], clos := s.clos ++ [((m1 : Int), some s.envs.length)] }) hcur _ (by simp only [List.length_append]; omega), b2]
    unfold setE
    rw [if_pos (show s.envs.length < (Go.Sm.ms { s with envs := s.envs ++ [⟨d.s, V.nil, e⟩], clos := s.clos ++ [((m1 : Int), some s.envs.length)] } (T ++ Tk) (W ++ (hidV low F.B F.L ++ ops))).envs.length from by show s.envs.length < (s.envs ++ [_]).length; simp), b1]
    have es : (s.envs ++ [(⟨d.s, V.nil, e⟩ : EvM)]).set s.envs.length { ((s.envs ++ [(⟨d.s, V.nil, e⟩ : EvM)]).getD s.envs.length evD) with v := ⟨5, (s.clos.length : Nat), []⟩ } = s.envs ++ [⟨d.s, ⟨5, (m.vs.clos.length : Nat), []⟩, e⟩] := by
      rw [List.getD_eq_getElem?_getD, List.getElem?_append_right (Nat.le_refl _), Nat.sub_self, List.set_append_right _ _ (Nat.le_refl _), Nat.sub_self, hcl]
      rfl
    show rdo 1 d.next 0 (some s.envs.length) (Go.Sm.ms { s with envs := (s.envs ++ [(⟨d.s, V.nil, e⟩ : EvM)]).set s.envs.length { ((s.envs ++ [(⟨d.s, V.nil, e⟩ : EvM)]).getD s.envs.length evD) with v := ⟨5, (s.clos.length : Nat), []⟩ }, clos := s.clos ++ [((m1 : Int), some s.envs.length)] } (T ++ Tk) (W ++ (hidV low F.B F.L ++ ops))) = _
    rw [es, ms_do (s := { s with envs := s.envs ++ [⟨d.s, ⟨5, (m.vs.clos.length : Nat), []⟩, e⟩], clos := s.clos ++ [((m1 : Int), some s.envs.length)] }) hcur _ _ _ (by omega) (fun i hi => by injection hi with hi; subst hi; show _ < (s.envs ++ [_]).length; simp), hops]
    rfl
end
end Go.Sm
