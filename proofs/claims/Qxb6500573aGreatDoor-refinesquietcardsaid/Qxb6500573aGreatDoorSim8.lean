/- Plain: the interpreter and the machine go on together: function literals. -/
import Derived.Test.Qxb6500573aGreatDoorSim7
namespace Go.Sm
open Go Go.Sl Go.Wl Go.Nm Go.Proofs
set_option linter.unusedVariables false
/-- The machine with a closure more. -/
def mClo (m : VM) (cs : List Ce) (us : List Int) (cl : Cl) : VM := { m with vs := { m.vs with cells := m.vs.cells ++ cs, upix := m.vs.upix ++ us, clos := m.vs.clos ++ [cl] } }
/-- A function literal, exactly. -/
theorem xclo {c : Cx} {m : VM} {t : Th} {pc : Nat} {x : Int} (N : Now c m t pc) (hi : InsAt c pc 28 x) :
    (24 ≤ m.vs.clos.length → vstepL c.th m = some (.trp 8 m)) ∧ (¬ 24 ≤ m.vs.clos.length → ∃ (o : List Int) (cs : List Ce) (us : List Int) (q : Pr), c.g.protos[x.toNat]? = some q ∧
      vstepL c.th m = some (.ok ev0 (upd c (mClo m cs us ⟨x, (m.vs.upix.length : Nat), q.nup⟩) { t with opn := o } (t.stack ++ [⟨5, (m.vs.clos.length : Nat), []⟩]) (pc + 1))) ∧
      ∀ (k : Nat) (d : Int × Int), ((c.g.descs.drop q.up.toNat).take q.nup.toNat)[k]? = some d → (d.1 = 1 → ∀ m', m'.vs.upix = m.vs.upix ++ us → m'.vs.cells = m.vs.cells ++ cs → UpAt m' (m.vs.upix.length + k) (.stk c.th (c.B + d.2.toNat))) ∧ (d.1 = 0 → ∀ pl, UpAt m (c.cl.up.toNat + d.2.toNat) pl → ∀ m', m'.vs.upix = m.vs.upix ++ us → m'.vs.cells = m.vs.cells ++ cs → UpAt m' (m.vs.upix.length + k) pl)) := by
  obtain ⟨_, hx, hI⟩ := N.step hi
  have hin := (N.in79 hi).2.2.2.2.2.2.2.1 rfl
  have h := N.run
  refine ⟨fun h24 => ?_, fun h24 => ?_⟩
  · rw [N.plain hi (by decide), hin]
    unfold pClo closureM
    rw [if_pos h24]
    rfl
  · have hex : ∃ q st z, c.PT c.cl.p.toNat pc = ⟨st, z⟩ ∧ (0 ≤ x ∧ x < c.g.protos.length) ∧ c.g.protos[x.toNat]? = some q ∧ ∀ d, d ∈ (c.g.descs.drop q.up.toNat).take q.nup.toNat → descOk c.p z d := by
      cases hI with
      | @clo _ st z q ht hx hq hd hn => exact ⟨q, st, z, ht, hx, hq, hd⟩
      | lit ho _ _ => omega
      | una ho _ _ => omega
      | jk ho _ _ _ => omega
    obtain ⟨q, st, z, hty, hxr, hq, hd⟩ := hex
    rw [hty] at h
    have hqo := h.mi.ok.pr _ _ hq
    have hn := h.mi.ok.n
    have hgx : getI c.g.protos x = some q := getI_mk (by omega) hq
    have hup := hqo.up
    have hsz := h.mi.ok.sz
    have hw : window c.g.descs q.up q.nup = some ((c.g.descs.drop q.up.toNat).take q.nup.toNat) := by
      unfold window
      rw [if_pos (by omega)]
    have hdl : ((c.g.descs.drop q.up.toNat).take q.nup.toNat).length = q.nup.toNat := by
      rw [List.length_take, List.length_drop]; omega
    obtain ⟨o, cs, us, g1, g2, g3⟩ := ups_x ((c.g.descs.drop q.up.toNat).take q.nup.toNat) h (fun d hd' => ⟨hd d hd', ((h.mi.ok.ds d (List.mem_of_mem_drop (List.mem_of_mem_take hd'))).2).2⟩) (by rw [hdl]; omega) N.ht
    refine ⟨o, cs, us, q, hq, ?_, fun k d hk => ⟨fun h1 m' e1 e2 => ?_, fun h1 pl hpl m' e1 e2 => ?_⟩⟩
    · have hsm := N.small
      have hp : plainM c.th c.fs.length c.p 28 x m = some (.ok () (setTh (mClo m cs us ⟨x, (m.vs.upix.length : Nat), q.nup⟩) c.th { t with opn := o, stack := t.stack ++ [⟨5, (m.vs.clos.length : Nat), []⟩] })) := by
        rw [hin]
        unfold pClo closureM
        rw [if_neg h24, h.mi.pg, hgx, bind1_some, hw, bind1_some, g1, bind1_some, if_pos (by show m.vs.clos.length < 1000000; omega)]
        show (if 0 ≤ ((m.vs.clos.length : Nat) : Int) ∧ ((m.vs.clos.length : Nat) : Int) ≤ 1000000000 then okU () (pushM c.th [⟨5, (m.vs.clos.length : Nat), []⟩] (setTh (mClo m cs us ⟨x, (m.vs.upix.length : Nat), q.nup⟩) c.th { t with opn := o })) else none) = _
        rw [if_pos (by omega), push_x (m := setTh (mClo m cs us ⟨x, (m.vs.upix.length : Nat), q.nup⟩) c.th { t with opn := o }) (t := { t with opn := o }) (setTh_at (m := mClo m cs us ⟨x, (m.vs.upix.length : Nat), q.nup⟩) N.ht) (by simp; omega), setTh_2]
        rfl
      rw [N.plainO hi (by decide) hp (t1 := { t with opn := o, stack := t.stack ++ [⟨5, (m.vs.clos.length : Nat), []⟩] }) (setTh_at (m := mClo m cs us ⟨x, (m.vs.upix.length : Nat), q.nup⟩) N.ht) N.fr, setTh_2]
      rfl
    · exact ((g3 k d hk).1 h1).grow (us := []) (cs := []) (by rw [e1, grow_upix, List.append_nil]) (by rw [e2, grow_cells, List.append_nil])
    · exact ((g3 k d hk).2 h1 pl hpl).grow (us := []) (cs := []) (by rw [e1, grow_upix, List.append_nil]) (by rw [e2, grow_cells, List.append_nil])
section
variable {K : Cn} {s : RnM} {m : VM} {th : Nat} {S : List Nat} {cn : Int} {ρ : Nat → Option Plc} {fi : Nat → List FI}
theorem Rl.clo (R : Rl K s m th S cn ρ fi) {t : Th} (ht : m.vs.threads[th]? = some t) {cs : List Ce} {us o : List Int} {cl : Cl} {mc : Int × Option Nat} (hnew : CloR K s.envs ρ (setTh (mClo m cs us cl) th { t with opn := o }) mc cl) : Rl K { s with clos := s.clos ++ [mc] } (setTh (mClo m cs us cl) th { t with opn := o }) th S cn ρ fi := by
  have hc : Chg AllK s.envs ρ m s.envs ρ (setTh (mClo m cs us cl) th { t with opn := o }) := ⟨.refl _, Nat.le_refl _, fun i pl idx _ hp hu => ⟨pl, hp, hu.grow (us := us) (cs := cs) rfl rfl⟩, fun _ _ _ _ h _ => h, fun _ _ h => h⟩
  have ht0 : (mClo m cs us cl).vs.threads[th]? = some t := ht
  have hcl : ∀ i x, getI m.vs.clos i = some x → getI (setTh (mClo m cs us cl) th { t with opn := o }).vs.clos i = some x := fun i x h => getI_app h _
  refine ⟨R.nd, R.dn, R.cr, by rw [setTh_len]; exact R.ln, R.sp, R.st, ⟨R.sn.1, fun u hu => ?_⟩, R.fu, R.ou, R.fr, R.ts, R.wf, fun i pl hi => ?_, R.ij, R.lv, ⟨?_, fun j mc' cl' g1 g2 => ?_⟩, fun u t2 ht2 => ?_⟩
  · obtain ⟨t2, q1, q2⟩ := R.sn.2 u hu
    have hne : u ≠ th := fun e => by
      have := R.sn.1
      rw [List.nodup_cons] at this
      exact this.1 (e ▸ hu)
    exact ⟨t2, by rw [setTh_ne hne]; exact q1, q2⟩
  · obtain ⟨ev, w1, w2⟩ := R.vl i pl hi
    refine ⟨ev, w1, ?_⟩
    cases pl with
    | cel j =>
      obtain ⟨e, x1, x2, x3⟩ := w2
      exact ⟨e, by show (m.vs.cells ++ cs)[j]? = _; rw [List.getElem?_append_left (lt_of x1)]; exact x1, x2, x3⟩
    | stk u a =>
      obtain ⟨t2, x1, x2⟩ := w2
      by_cases e : u = th
      · subst e
        rw [ht] at x1
        injection x1 with x1
        subst x1
        exact ⟨_, setTh_at ht0, x2⟩
      · exact ⟨t2, by rw [setTh_ne e]; exact x1, x2⟩
  · show (s.clos ++ [mc]).length = (m.vs.clos ++ [cl]).length
    rw [List.length_append, List.length_append, R.cl.1]
    rfl
  · have g1' : (s.clos ++ [mc])[j]? = some mc' := g1
    have g2' : (m.vs.clos ++ [cl])[j]? = some cl' := g2
    by_cases hj : j < s.clos.length
    · rw [List.getElem?_append_left hj] at g1'
      rw [List.getElem?_append_left (by rw [← R.cl.1]; exact hj)] at g2'
      exact (R.cl.2 j mc' cl' g1' g2').chg hc
    · have := lt_of g1'
      rw [List.length_append, List.length_singleton] at this
      have e : j = s.clos.length := by omega
      subst e
      rw [List.getElem?_append_right (Nat.le_refl _), Nat.sub_self] at g1'
      rw [R.cl.1, List.getElem?_append_right (Nat.le_refl _), Nat.sub_self] at g2'
      injection g1' with g1'
      injection g2' with g2'
      subst g1' g2'
      exact hnew
  · by_cases e : u = th
    · subst e
      rw [setTh_at ht0] at ht2
      injection ht2 with ht2
      subst ht2
      obtain ⟨q, q1, q2⟩ := R.th u t ht
      exact ⟨q, q1, q2.st, q2.fn, q2.dp, q2.bt, q2.tr.chg hc hcl fun _ _ => trivial⟩
    · rw [setTh_ne e] at ht2
      obtain ⟨q, q1, q2⟩ := R.th u t2 ht2
      exact ⟨q, q1, q2.st, q2.fn, q2.dp, q2.bt, q2.tr.chg hc hcl fun _ _ => trivial⟩
end
section
variable {K : Cn} {s : RnM} {m : VM} {S : List Nat} {cn : Int} {ρ : Nat → Option Plc} {fi : Nat → List FI} {c : Cx} {t : Th} {l : List FI} {F : FI} {Tk : List TkM} {W low ops : List V}
/-- What a new closure knows. -/
theorem clo_new (hK : Kok K) {x y : Nat} {E : Sco} {L : List Nm8} {f : Fs} {es : List EvM} {ρ : Nat → Option Plc} {u B up upn : Nat} {e : Option Nat} {m m' : VM} (hf : K.P[y]? = some f) (ve : VOk K.P es ρ m u B x E up L e)
    (hd : ∀ (k : Nat) (d : Int × Int), f.ups[k]? = some d → (d.1 = 1 → UpAt m' (upn + k) (.stk u (B + d.2.toNat))) ∧ (d.1 = 0 → ∀ pl, UpAt m (up + d.2.toNat) pl → UpAt m' (upn + k) pl)) : ∀ name, name ≠ [] → VU K.P es ρ m' y ((x, L) :: E) upn e name := fun name hn => by
  refine ⟨fun v hv => ?_, fun hv => ?_⟩
  · obtain ⟨h0, f', d, h1, h2, h3⟩ := hv
    rw [hf] at h1
    injection h1 with h1
    subst h1
    obtain ⟨w1, w2⟩ := hd v.toNat d h2
    rcases h3 with ⟨h3, h4⟩ | ⟨h3, h4, h5⟩
    · obtain ⟨sl, hsl⟩ : ∃ sl : Nat, slotL L name = (sl : Int) := ⟨(slotL L name).toNat, by omega⟩
      obtain ⟨i, f1, f2⟩ := ve.sl name hn sl hsl
      have := w1 (by rw [h4])
      rw [h4, hsl, Int.toNat_natCast] at this
      exact ⟨i, _, f1, f2, this⟩
    · obtain ⟨i, pl, f1, f2, f3⟩ := (ve.up name hn h3).1 d.2 h5
      exact ⟨i, pl, f1, f2, w2 h4 pl f3⟩
  · have h1 := hv (x, L) List.mem_cons_self
    exact (ve.up name hn h1).2 fun q hq => hv q (List.mem_cons_of_mem _ hq)
theorem func_fnd (hK : Kok K) {lo hi x pc : Nat} {E : Sco} {L : List Nm8} {n : Int} {q : Nat} {d : Nd} (h : Sp K.ns K.P .ex lo hi x E L pc n q) (hd : K.ns[hi]? = some d) (hk : d.k = 20) (hn : n = (hi : Int)) (h0 : 0 < hi) : ∃ (y : Nat) (f : Fs) (ps : List Nm8), d.n = (y : Int) ∧ insP K.P x pc = some (28, (y : Int)) ∧ q = pc + 1 ∧ K.P[y]? = some f ∧ FnD K y ((x, L) :: E) (hi : Int) d f ps := by
  have hb := hK.hb
  cases h with
  | @func _ m1 m2 _ _ _ y mm p1 p2 _ _ L1 ps d' f hlo hl hd' hk' hn' i hf hp hnp hps hb' hv hr =>
    rw [hd] at hd'
    injection hd' with hd'
    subst hd'
    have := lt_of hd
    refine ⟨y, f, ps, hn', by rw [← hn']; exact i, rfl, hf, nd_pos hd, hf, ⟨mm, hp⟩, hnp, hps, m1, m2, p1, p2, L1, by omega, ?_, hv, hr.1, hr.2.1, hr.2.2⟩
    rw [if_neg (by omega)]
    exact hb'
  | blank i => omega
  | lit hl hd' hk' i => rw [hd] at hd'; injection hd' with hd'; subst hd'; omega
  | num hl hd' hk' i hc => rw [hd] at hd'; injection hd' with hd'; subst hd'; omega
  | str hl hd' hk' i hc => rw [hd] at hd'; injection hd' with hd'; subst hd'; omega
  | name hl hd' hk' hs hv => rw [hd] at hd'; injection hd' with hd'; subst hd'; omega
  | index hl hd' hk' h1 h2 i => rw [hd] at hd'; injection hd' with hd'; subst hd'; omega
  | call hl hd' hk' h i => rw [hd] at hd'; injection hd' with hd'; subst hd'; omega
  | table hl hd' hk' i h => rw [hd] at hd'; injection hd' with hd'; subst hd'; omega
  | bin hl hd' hk' ho h1 h2 i => rw [hd] at hd'; injection hd' with hd'; subst hd'; omega
  | una hl hd' hk' ho h1 i => rw [hd] at hd'; injection hd' with hd'; subst hd'; omega
  | log hl hd' hk' h1 i h2 => rw [hd] at hd'; injection hd' with hd'; subst hd'; omega
theorem sim_func (Y : Vw K s m S cn ρ fi c t l F Tk W low ops) {lo hi w : Nat} {d : Nd} {e : Option Nat} {T : List TkM} (hT : F.T = ⟨2, (hi : Int), 0, e⟩ :: T) (h0 : 0 < hi) (hd : K.ns[hi]? = some d) (hk : d.k = 20) (h : Sp K.ns K.P .ex lo hi F.x F.E F.L F.pc (hi : Int) (F.pc + 1)) (ve : VOf K s m ρ c F F.L e) (ht : ∀ p, p ∈ F.tb → p < F.no) (k : KtV K s m ρ c F F.br F.L (F.pc + 1) (F.no + 1) F.tb T w) : Prog K F.w s (.run S c.th cn m) := by
  obtain ⟨y, f, ps, hn, i, _, hf, hD⟩ := func_fnd Y.kok h hd hk rfl h0
  have hno := Y.nops
  have hbase := Y.base
  have hcl := Y.R.cl.1
  obtain ⟨g1, g2⟩ := xclo Y.N (Y.ins i)
  have hev : ∀ X, evB (hi : Int) e d (Go.Sm.ms s (T ++ Tk) X) = (if 24 ≤ s.clos.length then some (rfin 8 [45] (Go.Sm.ms s (T ++ Tk) X)) else rpush ⟨5, (s.clos.length : Nat), []⟩ (Go.Sm.ms { s with clos := s.clos ++ [((hi : Int), e)] } (T ++ Tk) X)) := fun X => by
    unfold evB
    rw [if_neg (by omega), if_neg (by omega), if_neg (by omega), if_neg (by omega), if_neg (by omega), if_neg (by omega), if_neg (by omega), if_neg (by omega), if_pos hk, if_pos (show ∀ i, e = some i → i < (Go.Sm.ms s (T ++ Tk) X).envs.length from ve.rg)]
    rfl
  by_cases h24 : 24 ≤ m.vs.clos.length
  · exact Y.trap (e := 8) (s1 := Go.Sm.ms s (T ++ Tk) (W ++ (hidV low F.B F.L ++ ops))) (m1 := m) (Y.ev hT h0 hd (by rw [hev, if_pos (by omega)])) Y.R.fu Y.R.ou rfl (g1 h24) ⟨_, Y.R.ts⟩
  · obtain ⟨o, cs, us, q, q1, q2, q3⟩ := g2 h24
    obtain ⟨p, p1, p2⟩ := pg_lnk hf
    rw [Int.toNat_natCast, Y.kg, Y.kok.g, p1] at q1
    injection q1 with q1
    subst q1
    rw [Y.kg, Y.kok.g, p2.ds] at q3
    have hup : c.cl.up.toNat = F.up := by have := Y.hu; omega
    have hR1 := Y.R.clo Y.ht (cs := cs) (us := us) (o := o) (cl := ⟨(y : Int), (m.vs.upix.length : Nat), p.nup⟩) (mc := ((hi : Int), e)) ⟨ve.rg, y, m.vs.upix.length, (F.x, F.L) :: F.E, d, f, ps, rfl, rfl, hD, clo_new Y.kok hf ve fun k d' hk' => by
      obtain ⟨w1, w2⟩ := q3 k d' hk'
      rw [hup, Y.hB] at *
      exact ⟨fun h1 => w1 h1 _ rfl rfl, fun h1 pl hpl => w2 h1 pl hpl _ rfl rfl⟩⟩
    have hc1 : Chg AllK s.envs ρ m s.envs ρ (setTh (mClo m cs us ⟨(y : Int), (m.vs.upix.length : Nat), p.nup⟩) c.th { t with opn := o }) := ⟨.refl _, Nat.le_refl _, fun i pl idx _ hp hu => ⟨pl, hp, hu.grow (us := us) (cs := cs) rfl rfl⟩, fun _ _ _ _ h _ => h, fun _ _ h => h⟩
    have hcl1 : ∀ i x, getI m.vs.clos i = some x → getI (setTh (mClo m cs us ⟨(y : Int), (m.vs.upix.length : Nat), p.nup⟩) c.th { t with opn := o }).vs.clos i = some x := fun i x h => getI_app h _
    have ht1 : (setTh (mClo m cs us ⟨(y : Int), (m.vs.upix.length : Nat), p.nup⟩) c.th { t with opn := o }).vs.threads[c.th]? = some { t with opn := o } := setTh_at (m := mClo m cs us ⟨(y : Int), (m.vs.upix.length : Nat), p.nup⟩) Y.ht
    have Y1 : Vs K { s with clos := s.clos ++ [((hi : Int), e)] } (setTh (mClo m cs us ⟨(y : Int), (m.vs.upix.length : Nat), p.nup⟩) c.th { t with opn := o }) S cn ρ fi c { t with opn := o } l F Tk W low ops := ⟨hR1, ht1, Y.hfr, Y.st4, Y.hfi, Y.sk, Y.lo, Y.cur, Y.tks, Y.vls, ⟨Y.q.st, Y.q.fn, Y.q.dp, Y.q.bt, Y.q.tr.chg hc1 hcl1 fun _ _ => trivial⟩, Y.trs.chg hc1 hcl1 (fun _ _ => trivial), Y.fr.chg hc1 hcl1 (fun _ _ => trivial), Y.h⟩
    have R2 := Y1.loc0 (ops' := ops ++ [⟨5, (m.vs.clos.length : Nat), []⟩]) (k.mono (b := F.L.length) (fun L e hl hv => hv.chg hc1 fun _ _ _ _ => trivial) (Nl.self _)) (by rw [List.length_append, List.length_singleton]; omega) (tb_app (B := []) (by rw [List.append_nil]; exact Y.tbs) (by rw [← hno]; exact ht))
    have eu : upd c (setTh (mClo m cs us ⟨(y : Int), (m.vs.upix.length : Nat), p.nup⟩) c.th { t with opn := o }) { t with opn := o } (low ++ (ops ++ [⟨5, (m.vs.clos.length : Nat), []⟩])) (F.pc + 1) = upd c (mClo m cs us ⟨(y : Int), (m.vs.upix.length : Nat), p.nup⟩) { t with opn := o } (t.stack ++ [⟨5, (m.vs.clos.length : Nat), []⟩]) (F.pc + 1) := by
      unfold upd
      rw [setTh_2, Y.sk, List.append_assoc]
    rw [eu] at R2
    refine Y.step1 (Y.ev hT h0 hd ?_) q2 (setTh_at (m := mClo m cs us ⟨(y : Int), (m.vs.upix.length : Nat), p.nup⟩) Y.ht) rfl (fun i x h => getI_app h _) R2 (fiUp_at _ _ _)
    rw [hev, if_neg (by omega), ms_push (s := { s with clos := s.clos ++ [((hi : Int), e)] }) Y.cur _ (by simp only [List.length_append]; omega), hcl]
    simp only [List.append_assoc]
end
end Go.Sm
