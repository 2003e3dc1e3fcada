/- Plain: the interpreter and the machine go on together: stores to names. -/
import Derived.Test.Qxb6500573aGreatDoorSim6
namespace Go.Sm
open Go Go.Sl Go.Wl Go.Nm Go.Proofs
set_option linter.unusedVariables false
theorem setTh_comm (m : VM) {th u : Nat} (h : u ≠ th) (t1 y x : Th) : setTh (setTh (setTh m th t1) u x) th y = setTh (setTh m th y) u x := by
  have e : ((m.vs.threads.set th t1).set u x).set th y = (m.vs.threads.set th y).set u x := by
    rw [List.set_comm _ _ h, List.set_set]
  unfold setTh
  simp only
  rw [e]
section
variable {K : Cn} {s : RnM} {m : VM} {S : List Nat} {cn : Int} {ρ : Nat → Option Plc} {fi : Nat → List FI} {c : Cx} {t : Th} {l : List FI} {F : FI} {Tk : List TkM} {W low ops : List V}
theorem plSet_own (ht : m.vs.threads[c.th]? = some t) (X : List V) (q a : Nat) (v : V) : plSet (upd c m t X q) (.stk c.th a) v = upd c m t (X.set a v) q := by
  simp only [plSet, upd_at c m ht]
  unfold upd
  rw [setTh_2]
/-- A store through an upvalue. -/
theorem Vw.setUp (Y : Vw K s m S cn ρ fi c t l F Tk W low ops) {x : Int} {ops' : List V} {v : V} (hi : InsAt c F.pc 8 x) (hs : t.stack = (low ++ ops') ++ [v]) {pl : Plc} (h : UpAt m (F.up + x.toNat) pl) {v0 : V} (hv : PlV (upd c m t (low ++ ops') (F.pc + 1)) pl v0) : vstepL c.th m = some (.ok ev0 (plSet (upd c m t (low ++ ops') (F.pc + 1)) pl v)) := by
  obtain ⟨_, hx, _⟩ := Y.N.step hi
  obtain ⟨j, ce, g1, g2, g3, g4⟩ := Y.cell hx h
  have ht1 : (setTh m c.th { t with stack := low ++ ops' }).vs.threads[c.th]? = some { t with stack := low ++ ops' } := setTh_at Y.ht
  have hcell : cellOf c.th c.fs.length x (setTh m c.th { t with stack := low ++ ops' }) = some ((j : Int), ce) := by
    obtain ⟨c1, c2⟩ := Y.clo
    have e1 : getF (setTh m c.th { t with stack := low ++ ops' }) c.th c.fs.length = some c.f := by
      unfold getF getT
      rw [ht1, bind1_some, Y.hfr, List.getElem?_append_right (Nat.le_refl _), Nat.sub_self]
      rfl
    unfold cellOf at g1 ⊢
    rw [c1, bind1_some] at g1
    rw [e1, bind1_some]
    exact g1
  have hpl : plainM c.th c.fs.length c.p 8 x m = some (.ok () (plSet (setTh m c.th { t with stack := low ++ ops' }) pl v)) ∧ ∃ t2, (plSet (setTh m c.th { t with stack := low ++ ops' }) pl v).vs.threads[c.th]? = some t2 ∧ t2.frames = c.fs ++ [c.f] ∧ setTh (plSet (setTh m c.th { t with stack := low ++ ops' }) pl v) c.th { t2 with frames := c.fs ++ [{ c.f with pc := (F.pc : Int) + 1 }] } = plSet (upd c m t (low ++ ops') (F.pc + 1)) pl v := by
    rw [(Y.N.in79 hi).2.1 rfl]
    unfold pSetU
    rw [Y.N.pop1 hs, bind2_some]
    unfold setUpM
    rw [hcell, bind2_some]
    rcases g4 with ⟨h0, rfl⟩ | ⟨h0, rfl⟩
    · rw [if_pos h0]
      obtain ⟨tu', z1, z2, z3, z4, _⟩ := Y.N.run.openAt g3 h0
      by_cases e : ce.th.toNat = c.th
      · rw [e] at hv ⊢
        obtain ⟨tu, w1, w2⟩ := hv
        rw [upd_at c m Y.ht] at w1
        have w1 := Option.some.inj w1
        subst w1
        dsimp only at w2
        have hcl := lt_of w2
        have i1 : getI (setTh m c.th { t with stack := low ++ ops' }).vs.threads ce.th = some { t with stack := low ++ ops' } := getI_mk (by omega) (by rw [e]; exact ht1)
        have i2 : getI (low ++ ops') ce.at_ = some v0 := getI_mk (by omega) w2
        rw [i1, bind1_some, i2, bind1_some]
        have e2 : plSet (setTh m c.th { t with stack := low ++ ops' }) (.stk c.th ce.at_.toNat) v = setTh m c.th { t with stack := (low ++ ops').set ce.at_.toNat v } := by
          simp only [plSet, ht1]
          rw [setTh_2]
        rw [e2, setTh_2]
        refine ⟨rfl, _, setTh_at Y.ht, Y.hfr, ?_⟩
        rw [setTh_2, plSet_own Y.ht]
        rfl
      · obtain ⟨tu, w1, w2⟩ := hv
        rw [upd_ne _ _ _ _ _ e] at w1
        have w1' : (setTh m c.th { t with stack := low ++ ops' }).vs.threads[ce.th.toNat]? = some tu := by rw [setTh_ne e]; exact w1
        rw [w1] at z1
        have z1 := Option.some.inj z1
        subst z1
        rw [getI_mk (x := tu) (by omega) w1', bind1_some, getI_mk (x := v0) (by omega) w2, bind1_some]
        have e2 : plSet (setTh m c.th { t with stack := low ++ ops' }) (.stk ce.th.toNat ce.at_.toNat) v = setTh (setTh m c.th { t with stack := low ++ ops' }) ce.th.toNat { tu with stack := tu.stack.set ce.at_.toNat v } := by
          simp only [plSet, w1']
        rw [e2]
        refine ⟨rfl, { t with stack := low ++ ops' }, by rw [setTh_ne (fun q => e q.symm)]; exact ht1, Y.hfr, ?_⟩
        rw [setTh_comm _ e]
        have w3 : (upd c m t (low ++ ops') (F.pc + 1)).vs.threads[ce.th.toNat]? = some tu := by rw [upd_ne _ _ _ _ _ e]; exact w1
        simp only [plSet, w3]
        rfl
    · rw [if_neg (by omega)]
      have e2 : plSet (setTh m c.th { t with stack := low ++ ops' }) (.cel j) v = { (setTh m c.th { t with stack := low ++ ops' }) with vs := { (setTh m c.th { t with stack := low ++ ops' }).vs with cells := m.vs.cells.set j { ce with v := v } } } := by
        have : (setTh m c.th { t with stack := low ++ ops' }).vs.cells[j]? = some ce := g2
        simp only [plSet, this]
        rfl
      rw [e2]
      refine ⟨by rw [Int.toNat_natCast]; rfl, { t with stack := low ++ ops' }, ht1, Y.hfr, ?_⟩
      have w3 : (upd c m t (low ++ ops') (F.pc + 1)).vs.cells[j]? = some ce := g2
      simp only [plSet, w3]
      unfold upd setTh
      simp only [List.set_set]
      rfl
  obtain ⟨p1, t2, p2, p3, p4⟩ := hpl
  rw [Y.N.plainO hi (by decide) p1 p2 p3, p4]
theorem sim_stN (Y : Vw K s m S cn ρ fi c t l F Tk W low ops) {n : Int} {d : Nd} {e : Option Nat} {T : List TkM} {no w : Nat} (hT : F.T = ⟨9, n, 0, e⟩ :: T) (hn : F.no = no + 1) (hd : nd K.ns n = some d) (hs : nameOk d.s) (v : VarS K.P F.x F.E F.L d.s 6 8 10 F.pc) (ve : VOf K s m ρ c F F.L e) (ht : ∀ p, p ∈ F.tb → p < no) (k : KtV K s m ρ c F F.br F.L (F.pc + 1) no F.tb T w) : Prog K F.w s (.run S c.th cn m) := by
  have hdd := Y.nd hd
  have hno := Y.nops
  obtain ⟨ops', x, ho⟩ : ∃ ops' x, ops = ops' ++ [x] := by
    have : ops ≠ [] := fun q => by rw [q] at hno; simp at hno; omega
    exact ⟨_, _, (List.dropLast_concat_getLast this).symm⟩
  have hlen : ops.length = ops'.length + 1 := by rw [ho]; simp
  have hsk : t.stack = (low ++ ops') ++ [x] := by rw [Y.sk, ho]; simp only [List.append_assoc]
  have htb : ∀ p, p ∈ F.tb → ∃ v, ops'[p]? = some v ∧ v.t = 4 := tb_cut (B := [x]) (by rw [← ho]; exact Y.tbs) fun p hp => by have := ht p hp; omega
  have hpop : rpop (Go.Sm.ms s (T ++ Tk) (W ++ (hidV low F.B F.L ++ ops))) = some (x, Go.Sm.ms s (T ++ Tk) (W ++ (hidV low F.B F.L ++ ops'))) := by
    have := Y.pop (T := T ++ Tk) (ops' := ops') x (by omega)
    rw [← ho] at this
    exact this
  have hq3 : (⟨9, n, 0, e⟩ : TkM).k ≠ 3 := by intro q; cases q
  have R1 := Y.loc0 (ops' := ops') k (by omega) htb
  -- a variable
  have hvar : ∀ {i : Nat} {pl : Plc}, Fd s.envs e d.s (some i) → ρ i = some pl → (∀ v0, PlV (upd c m t (low ++ ops') (F.pc + 1)) pl v0 → vstepL c.th m = some (.ok ev0 (plSet (upd c m t (low ++ ops') (F.pc + 1)) pl x))) → Prog K F.w s (.run S c.th cn m) := fun {i pl} hf hi hv => by
    obtain ⟨ev, e1, e2⟩ := R1.vl i pl hi
    have e1' : s.envs[i]? = some ev := e1
    have R2 := R1.store hi e1 x
    obtain ⟨t2, f1, f2⟩ : ∃ t2, (plSet (upd c m t (low ++ ops') (F.pc + 1)) pl x).vs.threads[c.th]? = some t2 ∧ t2.frames = c.fs ++ [{ c.f with pc := ((F.pc + 1 : Nat) : Int) }] := by
      cases pl with
      | cel j =>
        obtain ⟨ce, w1, _⟩ := e2
        simp only [plSet, w1]
        exact ⟨_, upd_at c m Y.ht _ _, rfl⟩
      | stk u a =>
        obtain ⟨tu, w1, w2⟩ := e2
        by_cases q : u = c.th
        · subst q
          rw [plSet_own Y.ht]
          exact ⟨_, upd_at c m Y.ht _ _, rfl⟩
        · simp only [plSet, w1]
          rw [setTh_ne (fun z => q z.symm)]
          exact ⟨_, upd_at c m Y.ht _ _, rfl⟩
    have hcl : ∀ i x', getI m.vs.clos i = some x' → getI (plSet (upd c m t (low ++ ops') (F.pc + 1)) pl x).vs.clos i = some x' := fun i x' h => by
      cases pl with
      | cel j =>
        obtain ⟨ce, w1, _⟩ := e2
        simp only [plSet, w1]
        exact h
      | stk u a =>
        obtain ⟨tu, w1, w2⟩ := e2
        simp only [plSet, w1]
        exact h
    refine Y.step1 (Y.task hT hq3 hdd ?_) (hv ev.v e2) f1 f2 hcl R2 (fiUp_at _ _ _)
    rw [rt9]
    unfold k9
    rw [hpop, b2, Y.find ve.rg hf, b1]
    show setE i x (Go.Sm.ms s (T ++ Tk) (W ++ (hidV low F.B F.L ++ ops'))) = _
    unfold setE
    rw [if_pos (show i < (Go.Sm.ms s (T ++ Tk) (W ++ (hidV low F.B F.L ++ ops'))).envs.length from lt_of e1')]
    show some { (Go.Sm.ms s (T ++ Tk) (W ++ (hidV low F.B F.L ++ ops'))) with envs := s.envs.set i { (s.envs.getD i evD) with v := x } } = _
    rw [List.getD_eq_getElem?_getD, e1']
    rfl
  rcases v with ⟨h1, h2⟩ | ⟨h1, ⟨u, h2, h3⟩ | ⟨h2, ii, h3, h4⟩⟩
  · obtain ⟨sl, hsl⟩ : ∃ sl : Nat, slotL F.L d.s = (sl : Int) := ⟨(slotL F.L d.s).toNat, by omega⟩
    rw [hsl] at h2
    obtain ⟨i, f1, f2⟩ := ve.sl d.s hs.1 sl hsl
    refine hvar f1 f2 fun v0 hv0 => ?_
    rw [plSet_own Y.ht, (Y.N.xsetL (Y.ins h2) hsk).1, Int.toNat_natCast, Y.hB]
  · obtain ⟨i, pl, f1, f2, f3⟩ := (ve.up d.s hs.1 h1).1 u h2
    exact hvar f1 f2 fun v0 hv0 => Y.setUp (Y.ins h3) hsk f3 hv0
  · have f1 := (ve.up d.s hs.1 h1).2 h2
    have hkv : VVm m ⟨3, 0, d.s⟩ := VV.str hs.2
    have htn := Y.N.run.mi.tn
    have hvt : VVm m ⟨4, 0, []⟩ := VV.tabl (n := 0) (by omega) (by decide)
    refine Y.stores (T' := T) (tv := ⟨4, 0, []⟩) (k := ⟨3, 0, d.s⟩) (v := x) (ops' := ops') (U := some) hT hq3 hdd (Y.ins h3) (by decide) hvt hkv (Y.vv (by rw [ho]; simp)) (by omega) ?_ ?_ (fun _ _ _ _ => rfl) (.inl fun s' msg => thr_rest (fun _ _ => rfl) _) k k (by omega) htb
    · rw [rt9]
      unfold k9
      rw [hpop, b2, Y.find ve.rg f1, b1]
      exact (thr_rest (fun _ _ => rfl) _).symm
    · rw [(Y.N.in79 (Y.ins h3)).2.2.2.1 rfl]
      unfold pSetG
      rw [Y.N.pop1 hsk, bind2_some]
      have e1 : constM c.p ii (setTh m c.th { t with stack := low ++ ops' }) = constM c.p ii m := rfl
      rw [e1, Y.kon h4, bind1_some]
      rfl
end
end Go.Sm
