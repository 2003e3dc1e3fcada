/- Plain: the interpreter and the machine go on together: variables. -/
import Derived.Test.Qxb6500573aGreatDoorSim3
namespace Go.Wl
open Go Go.Sl Go.Proofs
set_option linter.unusedVariables false
section
variable {c : Cx} {m : VM} {t : Th} {pc : Nat} {x : Int} {Z : List V} {a b : V}
theorem Now.in79 (N : Now c m t pc) {op : Int} (hi : InsAt c pc op x) : (op = 7 → plainM c.th c.fs.length c.p op x m = pGetU c.th c.fs.length x m) ∧ (op = 8 → plainM c.th c.fs.length c.p op x m = pSetU c.th c.fs.length x m) ∧ (op = 9 → plainM c.th c.fs.length c.p op x m = pGetG c.th c.p x m) ∧ (op = 10 → plainM c.th c.fs.length c.p op x m = pSetG c.th c.p x m) ∧ (op = 12 → plainM c.th c.fs.length c.p op x m = pSetT c.th m) ∧ (op = 13 → plainM c.th c.fs.length c.p op x m = pSetI c.th x m) ∧ (op = 14 → plainM c.th c.fs.length c.p op x m = pNewT c.th m) ∧ (op = 28 → plainM c.th c.fs.length c.p op x m = pClo c.th c.fs.length x m) ∧ (op = 29 → plainM c.th c.fs.length c.p op x m = okU () (closeM c.th (c.f.base + x) m)) := by
  obtain ⟨_, hx, _⟩ := N.step hi
  have h := plain_in (op := op) N.run hx
  refine ⟨fun q => ?_, fun q => ?_, fun q => ?_, fun q => ?_, fun q => ?_, fun q => ?_, fun q => ?_, fun q => ?_, fun q => ?_⟩ <;> (subst q; rw [h]; (repeat rw [if_neg (by decide)]); rw [if_pos rfl])
end
end Go.Wl
namespace Go.Sm
open Go Go.Sl Go.Wl Go.Nm Go.Proofs
set_option linter.unusedVariables false
section
variable {K : Cn} {s : RnM} {m : VM} {S : List Nat} {cn : Int} {ρ : Nat → Option Plc} {fi : Nat → List FI} {c : Cx} {t : Th} {l : List FI} {F : FI} {Tk : List TkM} {W low ops : List V}
theorem Vs.glob (Y : Vs K s m S cn ρ fi c t l F Tk W low ops) {fu : Int} {ou : List UInt8} {tb : List Tb} {ts : List Row} (h : TsX tb ts) (hx : ∀ t k, NxOk m.vs.tabs t k → NxOk tb t k) : Vs K { s with fuel := fu, out := ou, ts := ts } { m with vs := { m.vs with fuel := fu, out := ou, tabs := tb } } S cn ρ fi c t l F Tk W low ops := by
  have hc : Chg AllK s.envs ρ m s.envs ρ { m with vs := { m.vs with fuel := fu, out := ou, tabs := tb } } := Chg.same rfl rfl hx
  exact ⟨Y.R.glob h hx, Y.ht, Y.hfr, Y.st4, Y.hfi, Y.sk, Y.lo, Y.cur, Y.tks, Y.vls, ⟨Y.q.st, Y.q.fn, Y.q.dp, Y.q.bt, Y.q.tr.chg hc (fun _ _ h => h) fun _ _ => trivial⟩, Y.trs.chg hc (fun _ _ h => h) (fun _ _ => trivial), Y.fr.chg hc (fun _ _ h => h) (fun _ _ => trivial), Y.h⟩
theorem KtV.glob {fu : Int} {ou : List UInt8} {tb : List Tb} {ts : List Row} {br : Brk} {L : List Nm8} {pc no w : Nat} {tb0 : List Nat} {T : List TkM} (hx : ∀ t k, NxOk m.vs.tabs t k → NxOk tb t k) (k : KtV K s m ρ c F br L pc no tb0 T w) : KtV K { s with fuel := fu, out := ou, ts := ts } { m with vs := { m.vs with fuel := fu, out := ou, tabs := tb } } ρ c F br L pc no tb0 T w :=
  Kt.mono (b := L.length) (fun L e hl hv => hv.chg (Chg.same (m := m) (m' := { m with vs := { m.vs with fuel := fu, out := ou, tabs := tb } }) rfl rfl hx) fun _ _ _ _ => trivial) k (Nl.self _)
/-- What a name means to the interpreter. -/
theorem Vw.find (Y : Vw K s m S cn ρ fi c t l F Tk W low ops) {e : Option Nat} {name : Nm8} {r : Option Nat} (he : ∀ i, e = some i → i < s.envs.length) (h : Fd s.envs e name r) (T : List TkM) (X : List V) : rfind (Go.Sm.ms s T X) e name = some r := h.find Y.R.wf s.envs.length he
theorem Vw.clo (Y : Vw K s m S cn ρ fi c t l F Tk W low ops) : getF m c.th c.fs.length = some c.f ∧ getI m.vs.clos c.f.clo = some c.cl := ⟨Y.N.run.frame, Y.N.thr.cl⟩
theorem Vw.cell (Y : Vw K s m S cn ρ fi c t l F Tk W low ops) {x : Int} (hx : 0 ≤ x ∧ x ≤ 65535) {pl : Plc} (h : UpAt m (F.up + x.toNat) pl) : ∃ (j : Nat) (ce : Ce), cellOf c.th c.fs.length x m = some ((j : Int), ce) ∧ m.vs.cells[j]? = some ce ∧ getI m.vs.cells (j : Int) = some ce ∧ ((0 ≤ ce.th ∧ pl = .stk ce.th.toNat ce.at_.toNat) ∨ (ce.th < 0 ∧ pl = .cel j)) := by
  obtain ⟨j, ce, q1, q2, q3⟩ := h
  have hul := Y.N.run.mi.ul
  have hcn := Y.N.run.mi.cn
  have l1 := lt_of q1
  have l2 := lt_of q2
  have hu := Y.hu
  have g1 : getI m.vs.upix (c.cl.up + x) = some (j : Int) := getI_mk (by omega) (by rw [show (c.cl.up + x).toNat = F.up + x.toNat from by omega]; exact q1)
  have g2 : getI m.vs.cells (j : Int) = some ce := getI_mk (by omega) (by rw [Int.toNat_natCast]; exact q2)
  refine ⟨j, ce, ?_, q2, g2, q3⟩
  obtain ⟨c1, c2⟩ := Y.clo
  unfold cellOf
  rw [c1, bind1_some, c2, bind1_some, g1, bind1_some, if_pos (by omega), g2, bind1_some]
theorem Vw.getUp (Y : Vw K s m S cn ρ fi c t l F Tk W low ops) {x : Int} (hx : 0 ≤ x ∧ x ≤ 65535) {pl : Plc} (h : UpAt m (F.up + x.toNat) pl) {v : V} (hv : PlV m pl v) : getUpM c.th c.fs.length x m = some v := by
  obtain ⟨j, ce, g1, g2, g3, g4⟩ := Y.cell hx h
  unfold getUpM
  rw [g1, bind2_some]
  rcases g4 with ⟨h0, rfl⟩ | ⟨h0, rfl⟩
  · rw [if_pos h0]
    obtain ⟨tu, w1, w2⟩ := hv
    obtain ⟨tu', z1, z2, z3, z4, _⟩ := Y.N.run.openAt g3 h0
    rw [w1] at z1
    have z1 := Option.some.inj z1
    subst z1
    rw [getI_mk (x := tu) (by omega) w1, bind1_some]
    exact getI_mk (by omega) w2
  · rw [if_neg (by omega)]
    obtain ⟨e2, w1, _, w3⟩ := hv
    rw [g2] at w1
    have w1 := Option.some.inj w1
    subst w1
    rw [w3]
theorem sim_name (Y : Vw K s m S cn ρ fi c t l F Tk W low ops) {hi : Nat} {e : Option Nat} {T : List TkM} {d : Nd} {w : Nat} (hT : F.T = ⟨2, (hi : Int), 0, e⟩ :: T) (h0 : 0 < hi) (hd : K.ns[hi]? = some d) (hk : d.k = 17) (hs : nameOk d.s) (ve : VOf K s m ρ c F F.L e) (hv : VarS K.P F.x F.E F.L d.s 5 7 9 F.pc) (ht : ∀ p, p ∈ F.tb → p < F.no) (k : KtV K s m ρ c F F.br F.L (F.pc + 1) (F.no + 1) F.tb T w) : Prog K F.w s (.run S c.th cn m) := by
  have hdd := Y.nd (nd_pos hd)
  have hbody : ∀ (T0 : List TkM) (X : List V), reval (hi : Int) 0 e (Go.Sm.ms s T0 X) = rname e d.s (Go.Sm.ms s T0 X) := fun T0 X => by
    refine (reval_at (m := Go.Sm.ms s T0 X) (by omega) hdd).trans ?_
    unfold evB
    rw [if_neg (by omega), if_neg (by omega), if_neg (by omega), if_neg (by omega), if_neg (by omega), if_pos hk]
  have hvar : ∀ {i : Nat} {ev : EvM}, Fd s.envs e d.s (some i) → s.envs[i]? = some ev → ∀ (T0 : List TkM) (X : List V), rname e d.s (Go.Sm.ms s T0 X) = rpush ev.v (Go.Sm.ms s T0 X) := fun {i ev} hf he T0 X => by
    unfold rname
    rw [Y.find ve.rg hf, b1]
    show (if i < s.envs.length then rpush (s.envs.getD i evD).v _ else none) = _
    rw [if_pos (lt_of he), List.getD_eq_getElem?_getD, he]
    rfl
  rcases hv with ⟨h1, h2⟩ | ⟨h1, ⟨u, h2, h3⟩ | ⟨h2, i, h3, h4⟩⟩
  · obtain ⟨sl, hsl⟩ : ∃ sl : Nat, slotL F.L d.s = (sl : Int) := ⟨(slotL F.L d.s).toNat, by omega⟩
    rw [hsl] at h2
    obtain ⟨i, f1, f2⟩ := ve.sl d.s hs.1 sl hsl
    obtain ⟨ev, e1, tu, e2, e3⟩ := Y.R.vl i _ f2
    rw [Y.ht] at e2
    injection e2 with e2
    subst e2
    exact Y.both hT hdd (by rw [hbody, hvar f1 e1]) (Y.N.xgetL (Y.ins h2) (by rw [Int.toNat_natCast, Y.hB]; exact e3)) ht k
  · obtain ⟨i, pl, f1, f2, f3⟩ := (ve.up d.s hs.1 h1).1 u h2
    obtain ⟨ev, e1, e2⟩ := Y.R.vl i _ f2
    obtain ⟨_, hx, _⟩ := Y.N.step (Y.ins h3)
    have hg := Y.getUp hx f3 e2
    refine Y.both hT hdd (by rw [hbody, hvar f1 e1]) (Y.N.plainS (Y.ins h3) (by decide) ?_) ht k
    rw [(Y.N.in79 (Y.ins h3)).1 rfl]
    unfold pGetU
    rw [hg, bind1_some]
    exact Y.N.pushP _
  · have f1 := (ve.up d.s hs.1 h1).2 h2
    have hkv : VVm m ⟨3, 0, d.s⟩ := VV.str hs.2
    obtain ⟨z1, z2⟩ := Y.tab0 (T ++ Tk) (W ++ (hidV low F.B F.L ++ ops))
    obtain ⟨v, v1, v2⟩ := Y.get (j := 0) ⟨by decide, by omega⟩ hkv
    refine Y.both hT hdd (v := v) ?_ (Y.N.plainS (Y.ins h3) (by decide) ?_) ht k
    · rw [hbody]
      unfold rname
      rw [Y.find ve.rg f1, b1]
      show (if tbOk _ _ then rpush (getW s.ts 0 ⟨3, 0, d.s⟩).1 _ else none) = _
      rw [if_pos z2]
      have v2' : (getW s.ts 0 ⟨3, 0, d.s⟩).1 = v := v2
      rw [v2']
    · rw [(Y.N.in79 (Y.ins h3)).2.2.1 rfl]
      unfold pGetG
      rw [Y.kon h4, bind1_some, v1, bind1_some]
      exact Y.N.pushP _
end
end Go.Sm
