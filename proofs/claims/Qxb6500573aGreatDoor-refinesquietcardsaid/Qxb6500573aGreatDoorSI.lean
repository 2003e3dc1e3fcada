/- Plain: the interpreter and the machine: the call at hand. -/
import Derived.Test.Qxb6500573aGreatDoorSH
namespace Go.Sm
open Go Go.Sl Go.Wl Go.Nm Go.Proofs
set_option linter.unusedVariables false
/-- What holds of the program. -/
structure Kok (K : Cn) : Prop where
  g : K.g = pgOf K.P
  ok : PgOk K.g K.PT
  hb : K.HB = 7 * K.ns.length + 10
  nl : K.ns.length ≤ 301
  n0 : K.ns[0]? = some nd0
abbrev AllK : Nat → Nat → Prop := fun _ _ => True
theorem Chg.same {es : List EvM} {ρ : Nat → Option Plc} {m m' : VM} (h1 : m'.vs.upix = m.vs.upix) (h2 : m'.vs.cells = m.vs.cells) (h3 : ∀ t k, NxOk m.vs.tabs t k → NxOk m'.vs.tabs t k := by exact fun _ _ h => h) : Chg AllK es ρ m es ρ m' :=
  ⟨.refl _, Nat.le_refl _, fun i pl idx _ hp hu => ⟨pl, hp, by unfold UpAt at *; rw [h1, h2]; exact hu⟩, fun _ _ _ _ h _ => h, h3⟩
section
variable {K : Cn} {s : RnM} {m : VM} {th : Nat} {S : List Nat} {cn : Int} {ρ : Nat → Option Plc} {fi : Nat → List FI}
theorem Rl.glob (R : Rl K s m th S cn ρ fi) {fu : Int} {ou : List UInt8} {tb : List Tb} {ts : List Row} (h : TsX tb ts) (hx : ∀ t k, NxOk m.vs.tabs t k → NxOk tb t k) : Rl K { s with fuel := fu, out := ou, ts := ts } { m with vs := { m.vs with fuel := fu, out := ou, tabs := tb } } th S cn ρ fi := by
  have hc : Chg AllK s.envs ρ m s.envs ρ { m with vs := { m.vs with fuel := fu, out := ou, tabs := tb } } := Chg.same rfl rfl hx
  refine ⟨R.nd, R.dn, R.cr, R.ln, R.sp, R.st, R.sn, rfl, rfl, R.fr, h, R.wf, fun i pl hi => ?_, R.ij, R.lv, ⟨R.cl.1, fun j mc cl h1 h2 => (R.cl.2 j mc cl h1 h2).chg hc⟩, fun u t ht => ?_⟩
  · obtain ⟨ev, q1, q2⟩ := R.vl i pl hi
    refine ⟨ev, q1, ?_⟩
    cases pl with
    | stk u a => exact q2
    | cel j => exact q2
  · obtain ⟨q, q1, q2⟩ := R.th u t ht
    exact ⟨q, q1, q2.st, q2.fn, q2.dp, q2.bt, q2.tr.chg hc (fun _ _ h => h) fun _ _ => trivial⟩
end
/-- The call at hand, as it lies. -/
structure Vs (K : Cn) (s : RnM) (m : VM) (S : List Nat) (cn : Int) (ρ : Nat → Option Plc) (fi : Nat → List FI) (c : Cx) (t : Th) (l : List FI) (F : FI) (Tk : List TkM) (W low ops : List V) : Prop where
  R : Rl K s m c.th S cn ρ fi
  ht : m.vs.threads[c.th]? = some t
  hfr : t.frames = c.fs ++ [c.f]
  st4 : t.st = 4
  hfi : fi c.th = l ++ [F]
  sk : t.stack = low ++ ops
  lo : low.length = F.B + F.nsl
  cur : curOk s
  tks : (thG s).tasks = (F.T ++ Tk).reverse
  vls : (thG s).vals = W ++ (hidV low F.B F.L ++ ops)
  q : ThOk K s.envs ρ m c.th t (thG s) (l ++ [F])
  trs : TRs K s.envs ρ m c.th t.stack 2 c.fs l Tk W c.f.ret.toNat
  fr : FrOk K s.envs ρ m c.th t.stack 0 c.f F t.stack.length (hidV low F.B F.L ++ ops)
  h : F.h = W.length
structure Vw (K : Cn) (s : RnM) (m : VM) (S : List Nat) (cn : Int) (ρ : Nat → Option Plc) (fi : Nat → List FI) (c : Cx) (t : Th) (l : List FI) (F : FI) (Tk : List TkM) (W low ops : List V) : Prop extends Vs K s m S cn ρ fi c t l F Tk W low ops where
  kok : Kok K
  N : Now c m t F.pc
  kg : c.g = K.g
  kp : c.PT = K.PT
  hB : c.B = F.B
  hO : c.O = low.length
  hn : c.p.nslots = (F.nsl : Int)
  hx : c.cl.p = (F.x : Int)
  hu : c.cl.up = (F.up : Int)
  pr : K.g.protos[F.x]? = some c.p
  tl : (F.T ++ Tk).length ≤ 100000
  vl : (W ++ (hidV low F.B F.L ++ ops)).length ≤ 2300
theorem thG_at {s : RnM} {th : Nat} {q : ThM} (hc : s.cur = (th : Int)) (h : s.ths[th]? = some q) : thG s = q := by
  unfold thG
  rw [hc, Int.toNat_natCast, List.getD_eq_getElem?_getD, h]
  rfl
theorem hidV_low {low ops : List V} {B : Nat} {L : List Nm8} (h : B + L.length ≤ low.length) : hidV (low ++ ops) B L = hidV low B L := hidV_congr _ _ fun k hk => by
  have := lt_of hk
  rw [List.getElem?_append_left (by omega)]
theorem view {K : Cn} (hK : Kok K) {s : RnM} {m : VM} {S : List Nat} {cn : Int} {ρ : Nat → Option Plc} {fi : Nat → List FI} {c : Cx} (R : Rl K s m c.th S cn ρ fi) (hr : Run c m) (hg : c.g = K.g) (hp : c.PT = K.PT) : ∃ t l F Tk W low ops, Vw K s m S cn ρ fi c t l F Tk W low ops := by
  obtain ⟨t, pc, N⟩ := hr.now
  obtain ⟨q, q1, q2⟩ := R.th c.th t N.ht
  have hq : thG s = q := thG_at R.cr q1
  have hT := q2.tr
  have hst4 := N.thr.st
  rw [N.fr, hst4] at hT
  obtain ⟨l, F, Tk, W, seg, e1, e2, e3, hT1, hF, hh⟩ := hT.inv
  have hR := N.thr
  have hsm := N.small
  have hb := hF.b
  have hB : c.B = F.B := by have := hR.b; omega
  obtain ⟨cl, p, k1, k2, k3, k4, k5⟩ := hF.cl
  rw [hR.cl] at k1
  injection k1 with k1
  subst k1
  have hpp : K.g.protos[F.x]? = some c.p := by
    obtain ⟨_, _, w⟩ := getI_lt' hR.pr
    rw [hg, k2, Int.toNat_natCast] at w
    exact w
  rw [hpp] at k4
  injection k4 with k4
  subst k4
  have hpc : F.pc = pc := by have := hF.pc; have := N.hpc.1; omega
  subst hpc
  have hO : c.O = F.B + F.nsl := by unfold Cx.O; rw [hB, k5]; simp
  have hll := hF.ll
  have he1 := hF.e1
  have hsk : t.stack = t.stack.take c.O ++ t.stack.drop c.O := (List.take_append_drop _ _).symm
  have hlo : (t.stack.take c.O).length = F.B + F.nsl := by rw [List.length_take]; omega
  have hsg : seg = hidV (t.stack.take c.O) F.B F.L ++ t.stack.drop c.O := by
    rw [hF.sg, List.take_of_length_le (Nat.le_refl _), ← hO]
    congr 1
    conv => lhs; rw [hsk]
    exact hidV_low (by omega)
  have hlen := hT.lens
  have hl8 : l.length < 8 := by
    have := hT1.lens.2.2.1
    have := hR.fl
    omega
  have hHB : K.HB ≤ 3000 := by have := hK.hb; have := hK.nl; omega
  have hbig : (l ++ [F]).length * (K.HB + 1) ≤ 8 * 3001 := Nat.mul_le_mul (by simp; omega) (by omega)
  refine ⟨t, l, F, Tk, W, t.stack.take c.O, t.stack.drop c.O, ⟨⟨R, N.ht, N.fr, hst4, e1, hsk, hlo, ?_, ?_, ?_, ?_, hT1, ?_, hh⟩, hK, N, hg, hp, hB, by rw [hlo, hO], k5, k2, k3, hpp, ?_, ?_⟩⟩
  · have := R.ln
    have := R.cr
    exact ⟨by omega, by omega⟩
  · rw [hq, ← e2, List.reverse_reverse]
  · rw [hq, e3, hsg]
  · rw [hq, ← e1]; exact q2
  · rw [← hsg]; exact hF
  · rw [← e2]
    rw [e1] at hlen
    omega
  · rw [← hsg, ← e3]
    omega
section
variable {K : Cn} {s : RnM} {m : VM} {S : List Nat} {cn : Int} {ρ : Nat → Option Plc} {fi : Nat → List FI} {c : Cx} {t : Th} {l : List FI} {F : FI} {Tk : List TkM} {W low ops : List V}
theorem Vs.ms (Y : Vs K s m S cn ρ fi c t l F Tk W low ops) : Go.Sm.ms s (F.T ++ Tk) (W ++ (hidV low F.B F.L ++ ops)) = s := ms_same Y.cur Y.tks Y.vls
/-- The calls of all threads; only the one at hand changes. -/
def fiUp (fi : Nat → List FI) (th : Nat) (l : List FI) : Nat → List FI := fun u => if u = th then l else fi u
theorem fiUp_at (fi : Nat → List FI) (th : Nat) (l : List FI) : fiUp fi th l th = l := if_pos rfl
theorem fiUp_ne (fi : Nat → List FI) {th u : Nat} (l : List FI) (h : u ≠ th) : fiUp fi th l u = fi u := if_neg h
theorem upd_at (c : Cx) (m : VM) {t : Th} (ht : m.vs.threads[c.th]? = some t) (X : List V) (q : Nat) : (upd c m t X q).vs.threads[c.th]? = some { t with stack := X, frames := c.fs ++ [{ c.f with pc := (q : Nat) }] } := setTh_at ht
theorem upd_ne (c : Cx) (m : VM) (t : Th) (X : List V) (q : Nat) {u : Nat} (h : u ≠ c.th) : (upd c m t X q).vs.threads[u]? = m.vs.threads[u]? := setTh_ne h
theorem ms_ne {s : RnM} {th : Nat} (hc : s.cur = (th : Int)) (T : List TkM) (X : List V) {u : Nat} (h : u ≠ th) : (Go.Sm.ms s T X).ths[u]? = s.ths[u]? := by
  unfold Go.Sm.ms rset
  dsimp only
  rw [hc, Int.toNat_natCast, List.getElem?_set_ne (fun q => h q.symm)]
theorem ms_at {s : RnM} {th : Nat} (hc : s.cur = (th : Int)) (h : th < s.ths.length) (T : List TkM) (X : List V) : (Go.Sm.ms s T X).ths[th]? = some { thG s with tasks := T.reverse, vals := X } := by
  unfold Go.Sm.ms rset
  dsimp only
  rw [hc, Int.toNat_natCast, List.getElem?_set_self h]
theorem Live.top {l : List FI} {F F' : FI} {a : Nat} (hB : F'.B = F.B) (h : ∀ (k : Nat) nm, F.L[k]? = some nm → nm ≠ [] → F'.L[k]? = some nm) (hl : Live (l ++ [F]) a) : Live (l ++ [F']) a := by
  obtain ⟨G, hG, s, nm, q1, q2, q3⟩ := hl
  rcases List.mem_append.1 hG with hG | hG
  · exact ⟨G, List.mem_append_left _ hG, s, nm, q1, q2, q3⟩
  · rw [List.mem_singleton] at hG
    subst hG
    exact ⟨F', by simp, s, nm, h s nm q1 q2, q2, by rw [hB]; exact q3⟩
/-- What only turns the call's own operands, hidden locals and place. -/
theorem Vs.ivs (Y : Vs K s m S cn ρ fi c t l F Tk W low ops) : ∀ q, q ∈ F.iv → q + 2 ≤ hidN F.L ∧ NxAt m.vs.tabs (hidV low F.B F.L) q := fun q hq => by
  obtain ⟨h1, h2⟩ := Y.fr.iv q hq
  exact ⟨h1, h2.pre (by rw [hidV_len]; exact h1)⟩
theorem Vs.loc (Y : Vs K s m S cn ρ fi c t l F Tk W low ops) {iv' : List Nat} {L' : List Nm8} {br' : Brk} {pc' no' w' : Nat} {tb' : List Nat} {T' : List TkM} {low' ops' : List V} (h1 : low'.length = low.length) (h2 : low'.take F.B = low.take F.B) (h3 : ∀ (k : Nat) nm, F.L[k]? = some nm → nm ≠ [] → L'[k]? = some nm ∧ low'[F.B + k]? = low[F.B + k]?) (h4 : L'.length ≤ F.nsl)
    (hk : Kt K.ns K.P F.x F.E K.HB (VOk K.P s.envs ρ m c.th F.B F.x F.E F.up) F.h (if c.f.prot = true then 1 else 0) iv' br' L' pc' no' tb' T' w') (hno : no' = ops'.length) (htb : ∀ p, p ∈ tb' → ∃ v, ops'[p]? = some v ∧ v.t = 4) (hiv : ∀ q, q ∈ iv' → q + 2 ≤ hidN L' ∧ NxAt m.vs.tabs (hidV low' F.B L') q) :
    Rl K (Go.Sm.ms s (T' ++ Tk) (W ++ (hidV low' F.B L' ++ ops'))) (upd c m t (low' ++ ops') pc') c.th S cn ρ (fiUp fi c.th (l ++ [{ F with L := L', br := br', pc := pc', T := T', w := w', no := no', tb := tb', iv := iv' }])) := by
  have R := Y.R
  have hc : Chg AllK s.envs ρ m s.envs ρ (upd c m t (low' ++ ops') pc') := Chg.same rfl rfl
  have hlo := Y.lo
  have hfr := Y.fr
  have hll := hfr.ll
  have hr := hfr.r
  have hln := R.ln
  have hlive : ∀ u a, Live (fi u) a → Live (fiUp fi c.th (l ++ [{ F with L := L', br := br', pc := pc', T := T', w := w', no := no', tb := tb', iv := iv' }]) u) a := fun u a hl => by
    by_cases e : u = c.th
    · subst e
      rw [fiUp_at]
      rw [Y.hfi] at hl
      exact Live.top (F := F) rfl (fun k nm q1 q2 => (h3 k nm q1 q2).1) hl
    · rw [fiUp_ne _ _ e]; exact hl
  refine ⟨R.nd, R.dn, R.cr, ?_, R.sp, R.st, ⟨R.sn.1, fun u hu => ?_⟩, R.fu, R.ou, R.fr, R.ts, R.wf, fun i pl hi => ?_, R.ij, fun i u a hi => hlive u a (R.lv i u a hi), ⟨R.cl.1, fun j mc cl g1 g2 => (R.cl.2 j mc cl g1 g2).chg hc⟩, fun u t' ht' => ?_⟩
  · unfold Go.Sm.ms rset upd
    rw [setTh_len]
    simpa using hln
  · obtain ⟨t', q1, q2⟩ := R.sn.2 u hu
    have hne : u ≠ c.th := fun e => by
      have := R.sn.1
      rw [List.nodup_cons] at this
      exact this.1 (e ▸ hu)
    exact ⟨t', by rw [upd_ne _ _ _ _ _ hne]; exact q1, q2⟩
  · obtain ⟨ev, q1, q2⟩ := R.vl i pl hi
    refine ⟨ev, q1, ?_⟩
    cases pl with
    | cel j => exact q2
    | stk u a =>
      obtain ⟨t', w1, w2⟩ := q2
      by_cases e : u = c.th
      · subst e
        rw [Y.ht] at w1
        injection w1 with w1
        subst w1
        refine ⟨_, upd_at c m Y.ht _ _, ?_⟩
        dsimp only
        have hl := R.lv i c.th a hi
        rw [Y.hfi] at hl
        rw [Y.sk] at w2
        obtain ⟨G, hG, s', nm, g1, g2, g3⟩ := hl
        rcases List.mem_append.1 hG with hG | hG
        · have := Y.trs.lens.2.2.2 G hG
          have := lt_of g1
          have ha : a < F.B := by omega
          rw [List.getElem?_append_left (by omega)] at w2 ⊢
          rw [← w2]
          exact at_take h2 ha
        · rw [List.mem_singleton] at hG
          subst hG
          have := lt_of g1
          rw [List.getElem?_append_left (by omega)] at w2 ⊢
          rw [g3, (h3 s' nm g1 g2).2, ← g3]
          exact w2
      · exact ⟨t', by rw [upd_ne _ _ _ _ _ e]; exact w1, w2⟩
  · by_cases e : u = c.th
    · subst e
      rw [upd_at c m Y.ht] at ht'
      injection ht' with ht'
      subst ht'
      refine ⟨_, ms_at R.cr (by omega) _ _, Y.q.st, Y.q.fn, ?_, Bot.pc (by rw [← Y.hfr]; exact Y.q.bt) _, ?_⟩
      · have := Y.q.dp
        rw [fiUp_at]
        simpa using this
      · rw [fiUp_at]
        dsimp only
        rw [List.reverse_reverse]
        have hlow : (low ++ ops).take c.f.ret.toNat = (low' ++ ops').take c.f.ret.toNat := by
          rw [List.take_append_of_le_length (by omega), List.take_append_of_le_length (by omega)]
          have := congrArg (List.take c.f.ret.toNat) h2
          rw [List.take_take, List.take_take, Nat.min_eq_left (by omega)] at this
          exact this.symm
        have htr := Y.trs
        rw [Y.sk] at htr
        refine .snoc (F := { F with L := L', br := br', pc := pc', T := T', w := w', no := no', tb := tb', iv := iv' }) (f := { c.f with pc := (pc' : Int) }) ((htr.congr hlow (by simp; omega)).chg hc (fun _ _ h => h) fun _ _ => trivial) ⟨hfr.b, hfr.r, rfl, hfr.cl, h4, ⟨by dsimp only; rw [List.length_append]; omega, Nat.le_refl _⟩, ?_, ?_, by dsimp only; rw [List.length_append, Y.st4, hno]; show _ = _ + 0; omega, by dsimp only; rw [List.take_of_length_le (Nat.le_refl _), show F.B + F.nsl = low'.length from by omega, List.drop_left]; exact htb, fun q hq => ⟨(hiv q hq).1, (hiv q hq).2.app _⟩⟩ Y.h
        · dsimp only
          rw [List.take_of_length_le (Nat.le_refl _), hidV_low (by omega), show F.B + F.nsl = low'.length from by omega, List.drop_left]
        · exact hk.mono (b := L'.length) (fun L e hl hv => hv.chg hc fun _ _ _ _ => trivial) (Nl.self _)
    · rw [upd_ne _ _ _ _ _ e] at ht'
      obtain ⟨q, q1, q2⟩ := R.th u t' ht'
      refine ⟨q, by rw [ms_ne R.cr _ _ e]; exact q1, q2.st, q2.fn, ?_, q2.bt, ?_⟩
      · rw [fiUp_ne _ _ e]; exact q2.dp
      · rw [fiUp_ne _ _ e]
        exact q2.tr.chg hc (fun _ _ h => h) fun _ _ => trivial
/-- The locals stay. -/
theorem Vs.loc0 (Y : Vs K s m S cn ρ fi c t l F Tk W low ops) {br' : Brk} {pc' no' w' : Nat} {tb' : List Nat} {T' : List TkM} {ops' : List V}
    (hk : Kt K.ns K.P F.x F.E K.HB (VOk K.P s.envs ρ m c.th F.B F.x F.E F.up) F.h (if c.f.prot = true then 1 else 0) F.iv br' F.L pc' no' tb' T' w') (hno : no' = ops'.length) (htb : ∀ p, p ∈ tb' → ∃ v, ops'[p]? = some v ∧ v.t = 4) :
    Rl K (Go.Sm.ms s (T' ++ Tk) (W ++ (hidV low F.B F.L ++ ops'))) (upd c m t (low ++ ops') pc') c.th S cn ρ (fiUp fi c.th (l ++ [{ F with L := F.L, br := br', pc := pc', T := T', w := w', no := no', tb := tb' }])) :=
  Y.loc rfl rfl (fun k nm h _ => ⟨h, rfl⟩) Y.fr.ll hk hno htb Y.ivs
end
end Go.Sm
