/- Plain: the interpreter and the machine go on together: a counting loop's round. -/
import Derived.Test.Qxb6500573aGreatDoorSim16
namespace Go.Wl
open Go Go.Sl Go.Proofs
set_option linter.unusedVariables false
section
variable {c : Cx} {m : VM} {t : Th} {pc : Nat}
theorem Now.insOk (N : Now c m t pc) {q : Nat} {op x : Int} (hq : (q : Int) < c.p.ncode) (hi : InsAt c q op x) : InsOk c.g c.p (c.PT c.cl.p.toNat) q op x := by
  obtain ⟨i, hi', hx, hI⟩ := N.run.prOk.ins q hq
  unfold InsAt at hi
  rw [hi] at hi'
  injection hi' with hi'
  subst hi'
  exact hI
/-- The control values of a counting loop are numbers. -/
theorem Now.fornum (N : Now c m t pc) {len p3 : Nat} (k0 : InsAt c pc 29 ((len + 3 : Nat) : Int)) (k1 : InsAt c (pc + 1) 5 (len : Int)) (k2 : InsAt c (pc + 2) 5 ((len + 2 : Nat) : Int)) (k3 : InsAt c (pc + 3) 15 1) (k4 : InsAt c (pc + 4) 6 (len : Int)) (k5 : InsAt c (pc + 5) 21 ((p3 + 2 : Nat) : Int)) (j2 : InsAt c (p3 + 2) 31 (len : Int)) : ∀ s, len ≤ s → s ≤ len + 2 → ∃ v, t.stack[c.B + s]? = some v ∧ v.t = 2 := by
  intro s hs1 hs2
  have i0 := N.insOk N.hpc.2 k0
  have z0 : (pc : Int) + 1 < c.p.ncode ∧ zle ((c.PT c.cl.p.toNat pc).z.take (len + 3)) (c.PT c.cl.p.toNat (pc + 1)).z := by
    cases i0 with
    | close ht hx hn => rw [ht]; rw [Int.toNat_natCast] at hn; exact ⟨hn.1, hn.2.2⟩
    | _ => omega
  have i1 := N.insOk (q := pc + 1) (by omega) k1
  have z1 : (pc : Int) + 2 < c.p.ncode ∧ zle (c.PT c.cl.p.toNat (pc + 1)).z (c.PT c.cl.p.toNat (pc + 2)).z := by
    cases i1 with
    | getL ht hx hb hn => rw [ht]; have := hn.1; exact ⟨by omega, hn.2.2⟩
    | _ => omega
  have i2 := N.insOk (q := pc + 2) (by omega) k2
  have z2 : (pc : Int) + 3 < c.p.ncode ∧ zle (c.PT c.cl.p.toNat (pc + 2)).z (c.PT c.cl.p.toNat (pc + 3)).z := by
    cases i2 with
    | getL ht hx hb hn => rw [ht]; have := hn.1; exact ⟨by omega, hn.2.2⟩
    | _ => omega
  have i3 := N.insOk (q := pc + 3) (by omega) k3
  have z3 : (pc : Int) + 4 < c.p.ncode ∧ zle (c.PT c.cl.p.toNat (pc + 3)).z (c.PT c.cl.p.toNat (pc + 4)).z := by
    cases i3 with
    | arith ht hx hn => rw [ht]; have := hn.1; exact ⟨by omega, hn.2.2⟩
    | _ => omega
  have i4 := N.insOk (q := pc + 4) (by omega) k4
  have z4 : (pc : Int) + 5 < c.p.ncode ∧ zle (c.PT c.cl.p.toNat (pc + 4)).z (c.PT c.cl.p.toNat (pc + 5)).z := by
    cases i4 with
    | setL ht hx hb hn => rw [ht]; have := hn.1; exact ⟨by omega, hn.2.2⟩
    | _ => omega
  have i5 := N.insOk (q := pc + 5) (by omega) k5
  have z5 : ((p3 + 2 : Nat) : Int) < c.p.ncode ∧ zle (c.PT c.cl.p.toNat (pc + 5)).z (c.PT c.cl.p.toNat (p3 + 2)).z := by
    cases i5 with
    | jmp hj => rw [jmpT, Int.toNat_natCast] at hj; exact ⟨hj.1.2, hj.2.2⟩
    | _ => omega
  have i6 := N.insOk z5.1 j2
  have z6 : (c.PT c.cl.p.toNat (p3 + 2)).z[s]? = some 2 := by
    cases i6 with
    | forT ht hx h0 h1 h2 hn =>
      rw [ht]
      rw [Int.toNat_natCast] at h0 h1 h2
      rcases (show s = len ∨ s = len + 1 ∨ s = len + 2 by omega) with q | q | q
      · rw [q]; exact h0
      · rw [q]; exact h1
      · rw [q]; exact h2
    | _ => omega
  have y := z0.2.2 s (z1.2.2 s (z2.2.2 s (z3.2.2 s (z4.2.2 s (z5.2.2 s z6)))))
  rw [List.getElem?_take_of_lt (by omega)] at y
  exact N.thr.ns s y
end
end Go.Wl
namespace Go.Sm
open Go Go.Sl Go.Wl Go.Nm Go.Proofs
set_option linter.unusedVariables false
section
variable {K : Cn} {s : RnM} {m : VM} {S : List Nat} {cn : Int} {ρ : Nat → Option Plc} {fi : Nat → List FI} {c : Cx} {t : Th} {l : List FI} {F : FI} {Tk : List TkM} {W low ops : List V}
theorem upd_fuel (c : Cx) (m : VM) (t : Th) (X Y : List V) (q q2 : Nat) (fu : Int) : upd (c.pc q) { upd c m t X q with vs := { (upd c m t X q).vs with fuel := fu } } { t with stack := X, frames := c.fs ++ [{ c.f with pc := (q : Nat) }] } Y q2 = upd c { m with vs := { m.vs with fuel := fu } } t Y q2 := by
  unfold upd setTh
  dsimp only [Cx.pc]
  rw [List.set_set]
/-- Both end, behind several steps of the machine. -/
theorem Vw.trapN (Y : Vw K s m S cn ρ fi c t l F Tk W low ops) {s1 : RnM} {m0 m1 : VM} {e : Int} {n : Nat} (hm : MS s (rfin e [45] s1)) (h1 : s1.fuel = m1.vs.fuel) (h2 : s1.out = m1.vs.out) (h3 : s1.first = s.first) (hg : GS n (.run S c.th cn m) (.run S c.th cn m0)) (hv : vstepL c.th m0 = some (.trp e m1)) (h4 : ∃ rs, TsX m1.vs.tabs rs) : Prog K F.w s (.run S c.th cn m) := by
  refine ⟨n + 1, _, _, 0, hm, hg.trans (.one (gstep_trp hv)), .fin rfl ?_ h4, .inl (by omega)⟩
  unfold rfin ansOf
  dsimp only
  rw [if_pos rfl, h1, h2, h3, Y.R.fr]
  rfl
theorem sim_forB (Y : Vw K s m S cn ρ fi c t l F Tk W low ops) {p3 p5 m3 m4 w : Nat} {n : Int} {d : Nd} {e : Option Nat} {T : List TkM} {L L1 : List Nm8} (hT : F.T = ⟨17, n, 0, e⟩ :: T) (hL : F.L = L ++ [[], [], [], d.s]) (hn0 : F.no = 0) (ht0 : F.tb = []) (hd : nd K.ns n = some d) (D : FoD K.ns K.P F.x F.E L d p3 F.pc p5 m3 m4 L1) (ve : VOf K s m ρ c F L e) (hb : T.length + 7 * (m4 - m3) + 1 ≤ K.HB) (hiv : ∀ q, q ∈ F.iv → q + 2 ≤ hidN L) (k : KtV K s m ρ c F (some (L.length, F.pc + 6)) L (F.pc + 6) 0 [] T w) : Prog K F.w s (.run S c.th cn m) := by
  have hops := ops0 Y.toVs hn0
  have htl := Y.tlen hT
  have hsk : t.stack = low := by rw [Y.sk, hops, List.append_nil]
  have hlo := Y.lo
  have hbase := Y.base
  have hle := D.le
  have hll := Y.fr.ll
  have hfu := Y.N.run.mi.fu
  have hf := Y.R.fu
  have hlen : F.L.length = L.length + 4 := by rw [hL]; simp
  have hr := D.hr
  have hnum := Y.N.fornum (len := L.length) (p3 := p3) (Y.ins hr.k0) (Y.ins hr.k1) (Y.ins hr.k2) (Y.ins hr.k3) (Y.ins hr.k4) (Y.ins hr.k5) (Y.ins hr.j2)
  rw [hsk, Y.hB] at hnum
  obtain ⟨a, ha, ha2⟩ := hnum L.length (by omega) (by omega)
  obtain ⟨v, hv, hv2⟩ := hnum (L.length + 2) (by omega) (by omega)
  obtain ⟨b, hb1, _⟩ := hnum (L.length + 1) (by omega) (by omega)
  have hb1 : low[F.B + L.length + 1]? = some b := hb1
  have hv : low[F.B + L.length + 2]? = some v := hv
  have va : VVm m a := Y.N.thr.vv _ (by rw [hsk]; exact List.mem_of_getElem? ha)
  have vv : VVm m v := Y.N.thr.vv _ (by rw [hsk]; exact List.mem_of_getElem? hv)
  have hna := Y.numr va
  have hnv := Y.numr vv
  -- the machine
  obtain ⟨o, cs, g1, gC⟩ := Y.N.xclose (Y.ins hr.k0)
  rw [Y.hB] at gC
  rw [hsk] at g1
  have N1 := Y.N.after g1 (setTh_at (m := { m with vs := { m.vs with cells := cs } }) Y.ht) rfl (fun _ _ h => h)
  have g2 := N1.xgetL (x := (L.length : Int)) (Y.ins hr.k1) (v := a) (by rw [Int.toNat_natCast]; show low[c.B + L.length]? = _; rw [Y.hB]; exact ha)
  rw [upd_upd] at g2
  have N2 := N1.on2 g2
  have g3 := N2.xgetL (x := ((L.length + 2 : Nat) : Int)) (Y.ins hr.k2) (v := v) (by rw [Int.toNat_natCast]; show (low ++ [a])[c.B + (L.length + 2)]? = _; rw [Y.hB, List.getElem?_append_left (by omega)]; exact hv)
  rw [upd_upd] at g3
  have N3 := N2.on2 g3
  have g4 := N3.plainS (op := 15) (x := 1) (Y.ins hr.k3) (by decide) (by rw [N3.oarith (Y.ins hr.k3) (Z := low) (a := a) (b := v) rfl hna hnv, if_neg (by omega)])
  rw [upd_upd] at g4
  have N4 := N3.on2 g4
  obtain ⟨g5, k2, k3, k4⟩ := N4.xsetL (x := (L.length : Int)) (Y.ins hr.k4) (S := low) rfl
  rw [upd_upd, Int.toNat_natCast, show (c.pc ((F.pc + 1 + 1 + 1 + 1 : Nat) : Int)).B = F.B from Y.hB] at g5
  have N5 := N4.on2 g5
  have g6 := N5.xback (q := p3 + 2) (Y.ins hr.k5) (by omega)
  have hG : GS 5 (.run S c.th cn m) (.run S c.th cn _) := .step (gstep_ok g1) (.step (gstep_ok g2) (.step (gstep_ok g3) (.step (gstep_ok g4) (.one (gstep_ok g5)))))
  -- the interpreter
  have ehid0 : ∀ X : List V, hidV X F.B F.L = hidV X F.B L ++ [X.getD (F.B + L.length) V.nil, X.getD (F.B + L.length + 1) V.nil, X.getD (F.B + L.length + 2) V.nil] := fun X => by
    rw [hL, hidV_app]
    simp [hidV, D.hs]
  have ehid3 : ∀ X : List V, hidV X F.B (L ++ [[], [], []]) = hidV X F.B L ++ [X.getD (F.B + L.length) V.nil, X.getD (F.B + L.length + 1) V.nil, X.getD (F.B + L.length + 2) V.nil] := fun X => by
    rw [hidV_app]
    rfl
  have gd : ∀ {X : List V} {i : Nat} {x : V}, X[i]? = some x → X.getD i V.nil = x := fun h => by rw [List.getD_eq_getElem?_getD, h]; rfl
  have eX : W ++ (hidV low F.B F.L ++ ops) = (W ++ hidV low F.B L) ++ [a, b, v] := by rw [ehid0, gd ha, gd hb1, gd hv, hops, List.append_nil, List.append_assoc]
  have hXl : (W ++ (hidV low F.B F.L ++ ops)).length ≤ 1000000 := by simp only [List.length_append]; omega
  have hXn : (W ++ (hidV low F.B F.L ++ ops)).length = (W ++ hidV low F.B L).length + 3 := by rw [eX]; simp; omega
  have top3 : ∀ T, vTop 3 (Go.Sm.ms s T (W ++ (hidV low F.B F.L ++ ops))) = some a := fun T => by
    refine ms_top Y.cur hXl (by omega) ?_
    rw [hXn, eX, List.getElem?_append_right (by omega), show (W ++ hidV low F.B L).length + 3 - 3 - (W ++ hidV low F.B L).length = 0 from by omega]
    rfl
  have top1 : ∀ T, vTop 1 (Go.Sm.ms s T (W ++ (hidV low F.B F.L ++ ops))) = some v := fun T => by
    refine ms_top Y.cur hXl (by omega) ?_
    rw [hXn, eX, List.getElem?_append_right (by omega), show (W ++ hidV low F.B L).length + 3 - 1 - (W ++ hidV low F.B L).length = 2 from by omega]
    rfl
  have ea : ({ a with n := (arithT 1 a.n.toNat v.n.toNat : Nat) } : V) = ⟨2, (arithT 1 a.n.toNat v.n.toNat : Nat), []⟩ := by
    have hw := va.wl
    unfold well at hw
    rw [if_neg (by omega)] at hw
    split at hw
    · cases hw
    · rename_i q
      have h0 : a.s = [] := List.length_eq_zero_iff.1 (by omega)
      rw [h0, ha2]
  have hput : ∀ T, rputV 3 { a with n := (arithT 1 a.n.toNat v.n.toNat : Nat) } (Go.Sm.ms s T (W ++ (hidV low F.B F.L ++ ops))) = some (Go.Sm.ms s T (W ++ (hidV (low.set (F.B + L.length) ⟨2, (arithT 1 a.n.toNat v.n.toNat : Nat), []⟩) F.B (L ++ [[], [], []]) ++ []))) := fun T => by
    rw [ms_put Y.cur _ hXl (by omega), hXn, eX, ea, ehid3]
    rw [show hidV (low.set (F.B + L.length) ⟨2, (arithT 1 a.n.toNat v.n.toNat : Nat), []⟩) F.B L = hidV low F.B L from hidV_congr _ _ fun k hk => by rw [List.getElem?_set_ne (by have := lt_of hk; omega)]]
    rw [gd (List.getElem?_set_self (by omega)), gd (x := b) (by rw [List.getElem?_set_ne (by omega)]; exact hb1), gd (x := v) (by rw [List.getElem?_set_ne (by omega)]; exact hv)]
    rw [show (W ++ hidV low F.B L).length + 3 - 3 = (W ++ hidV low F.B L).length from by omega, List.set_append_right _ _ (Nat.le_refl _), Nat.sub_self, List.append_nil, ← List.append_assoc]
    rfl
  have hk17 : ∀ X, k17 ⟨17, n, 0, e⟩ X = k17 ⟨17, n, 0, e⟩ X := fun _ => rfl
  rcases g6 with ⟨f0, g6⟩ | ⟨f0, g6⟩
  · have f0' : m.vs.fuel = 0 := f0
    refine Y.trapN (e := 9) (s1 := Go.Sm.ms s (T ++ Tk) (W ++ (hidV (low.set (F.B + L.length) ⟨2, (arithT 1 a.n.toNat v.n.toNat : Nat), []⟩) F.B (L ++ [[], [], []]) ++ []))) (Y.task hT (by intro q; cases q) (Y.nd hd) ?_) (by exact Y.R.fu) (by exact Y.R.ou) rfl hG g6 (by exact ⟨_, Y.R.ts⟩)
    rw [rt17]
    unfold k17
    rw [top3, b1, top1, b1, if_pos ⟨hna, hnv⟩, hput, b1, burn_no (by omega), b2, if_neg (by intro q; cases q)]
  · have f0' : 0 < m.vs.fuel := f0
    have R1 := Y.closeTo (iv' := F.iv) (L' := L ++ [[], [], []]) (br' := some (L.length, F.pc + 6)) (T' := ⟨16, n, 0, e⟩ :: T) (pc' := p3 + 2) (w' := w + 1) (b := L.length + 3) (o := o) (low' := low.set (F.B + L.length) ⟨2, (arithT 1 a.n.toNat v.n.toNat : Nat), []⟩) hops (fun k nm q1 q2 q3 => by
        rw [hL, show L ++ [[], [], [], d.s] = (L ++ [[], [], []]) ++ [d.s] from by simp, List.getElem?_append_left (by simp; omega)] at q2
        exact q2) (by simp) (by simp; omega) (by simp) (by rw [List.take_set_of_le (by omega)]) (fun k nm q1 q2 => by
        have : k ≠ L.length := fun q => by
          rw [q, hL, List.getElem?_append_right (Nat.le_refl _), Nat.sub_self] at q1
          injection q1 with q1
          exact q2 q1.symm
        rw [List.getElem?_set_ne (by omega)]) gC (.forT hd D ve hb hiv k) (fun q hq => by
        have h1 := hiv q hq
        refine ⟨by rw [hidN_app]; omega, ?_⟩
        rw [hidV_app, show hidV (low.set (F.B + L.length) ⟨2, (arithT 1 a.n.toNat v.n.toNat : Nat), []⟩) F.B L = hidV low F.B L from hidV_congr _ _ fun k hk => by rw [List.getElem?_set_ne (by have := lt_of hk; omega)]]
        exact (NxAt.hid (by rw [← hL]; exact (Y.ivs q hq).2) h1).app _)
    have R2 := R1.glob (fu := m.vs.fuel - 1) (ou := m.vs.out) (tb := m.vs.tabs) (ts := s.ts) Y.R.ts (fun _ _ h => h)
    have g6' : vstepL c.th (upd c { m with vs := { m.vs with cells := cs } } { t with opn := o } (low.set (F.B + L.length) ⟨2, (arithT 1 a.n.toNat v.n.toNat : Nat), []⟩) (F.pc + 1 + 1 + 1 + 1 + 1)) = some (.ok ev0 (upd c { m with vs := { m.vs with cells := cs, fuel := m.vs.fuel - 1 } } { t with opn := o } (low.set (F.B + L.length) ⟨2, (arithT 1 a.n.toNat v.n.toNat : Nat), []⟩) (p3 + 2))) := g6.trans (congrArg (fun z => some (Out.ok ev0 z)) (upd_fuel c { m with vs := { m.vs with cells := cs } } { t with opn := o } _ _ _ _ _))
    have N6 := N5.after g6' (setTh_at (m := { m with vs := { m.vs with cells := cs, fuel := m.vs.fuel - 1 } }) Y.ht) rfl (fun _ _ h => h)
    refine Y.stepN (n := 6) (Y.task hT (by intro q; cases q) (Y.nd hd) ?_) (hG.trans (.one (gstep_ok g6'))) (by decide) N6.go ⟨rfl, rfl, rfl⟩ R2 (fiUp_at _ _ _)
    have es : ({ s with fuel := m.vs.fuel - 1, out := m.vs.out, ts := s.ts } : RnM) = { s with fuel := s.fuel - 1 } := by rw [← Y.R.ou, ← hf]
    rw [rt17]
    unfold k17
    rw [top3, b1, top1, b1, if_pos ⟨hna, hnv⟩, hput, b1, burn_ok (by omega), b2, if_pos rfl, ms_do (s := { s with fuel := s.fuel - 1 }) Y.cur _ _ _ (by omega) ve.rg, ← es]
    rfl
end
end Go.Sm
