/- Plain: the interpreter and the machine go on together: statements. -/
import Derived.Test.Qxb6500573aGreatDoorSim9
namespace Go.Sm
open Go Go.Sl Go.Wl Go.Nm Go.Proofs
set_option linter.unusedVariables false
section
variable {K : Cn} {s : RnM} {m : VM} {S : List Nat} {cn : Int} {ρ : Nat → Option Plc} {fi : Nat → List FI} {c : Cx} {t : Th} {l : List FI} {F : FI} {Tk : List TkM} {W low ops : List V}
/-- The tasks of a call. -/
theorem Vw.rcallX (Y : Vw K s m S cn ρ fi c t l F Tk W low ops) {lo hi pc q n0 w0 : Nat} {n : Int} {e : Option Nat} {tb : List Nat} {T0 : List TkM} {X : List V} (h : Sp K.ns K.P .cl lo hi F.x F.E F.L pc n q) (ve : VOf K s m ρ c F F.L e) (hb : T0.length + 7 * (hi - lo) ≤ K.HB) (htl : (T0 ++ Tk).length ≤ 100000) (ht : ∀ p, p ∈ tb → p < n0) (k : KtV K s m ρ c F F.br F.L q (n0 + 2) tb T0 w0) :
    ∃ T1 w1, rcall n e (Go.Sm.ms s (T0 ++ Tk) X) = some (Go.Sm.ms s (T1 ++ Tk) X) ∧ KtV K s m ρ c F F.br F.L pc n0 tb T1 w1 ∧ w1 + 1 ≤ w0 + 6 * (hi - lo) := by
  have hcur := Y.cur
  have htl2 := htl
  rw [List.length_append] at htl2
  cases h with
  | @clmk _ m1 m2 _ _ _ p3 p4 j _ _ d hl hd hk h1 h2 hj i2 =>
    have r1 := h1.reg
    have r2 := h2.reg
    have hargs : ∀ (j : Nat) {a b pc q : Nat} {r : Int} {T0 : List TkM} {w0 : Nat}, Sp K.ns K.P (.ar j) a b F.x F.E F.L pc r q → T0.length + 7 * (b - a) + j ≤ K.HB → ∀ n0, (∀ p, p ∈ tb → p < n0) → KtV K s m ρ c F F.br F.L q (n0 + j) tb T0 w0 → ∀ f, j ≤ f → ∃ al : List Int, argL s f r = some al ∧ al.length = j ∧ KtV K s m ρ c F F.br F.L pc n0 tb (al.map (fun a => (⟨2, a, 0, e⟩ : TkM)) ++ T0) (w0 + 6 * (b - a) + j) := by
      intro j
      induction j with
      | zero =>
        intro a b pc q r T0 w0 hS hl0 n0 ht0 hk0 f hf
        cases hS with
        | anil =>
          refine ⟨[], ?_, rfl, ?_⟩
          · cases f with
            | zero => rfl
            | succ f => unfold argL; rw [if_pos rfl]
          · rw [Nat.sub_self]; exact hk0
      | succ j ih =>
        intro a b pc q r T0 w0 hS hl0 n0 ht0 hk0 f hf
        cases hS with
        | @acons _ md _ _ _ pm _ _ _ _ d hm hd h1 h2 =>
          have q1 := h1.reg
          have q2 := h2.reg
          obtain ⟨f, rfl⟩ : ∃ g, f = g + 1 := ⟨f - 1, by omega⟩
          obtain ⟨al, g1, g2, g3⟩ := ih (T0 := T0) h2 (by omega) (n0 + 1) (fun p hp => Nat.lt_succ_of_lt (ht0 p hp)) (by rw [show n0 + 1 + j = n0 + (j + 1) from by omega]; exact hk0) f (by omega)
          refine ⟨(md : Int) :: al, ?_, by simp [g2], ?_⟩
          · unfold argL
            rw [if_neg (by omega), Y.nd (nd_pos hd)]
            dsimp only
            rw [g1]
            rfl
          · have h9 := Kt.eval (T := al.map (fun a => (⟨2, a, 0, e⟩ : TkM)) ++ T0) h1 ve (by simp only [List.length_append, List.length_map]; omega) ht0 g3
            have e9 : w0 + 6 * (b - md) + j + (6 * (md - a) + 1) = w0 + 6 * (b - a) + (j + 1) := by omega
            rw [e9] at h9
            exact h9
    obtain ⟨al, g1, g2, g3⟩ := hargs j (T0 := ⟨22, (hi : Int), (j : Int), e⟩ :: T0) h2 (by simp only [List.length_cons]; omega) (n0 + 1) (fun p hp => Nat.lt_succ_of_lt (ht p hp)) (by rw [show n0 + 1 + j = n0 + j + 1 from by omega]; exact .call (nd_pos hd) hj i2 (by omega) ht k) 3 hj
    have hdo : ∀ (al : List Int) (T0 : List TkM), T0.length + al.length ≤ 100010 → doL e al (Go.Sm.ms s T0 X) = some (Go.Sm.ms s (al.reverse.map (fun a => (⟨2, a, 0, e⟩ : TkM)) ++ T0) X) := by
      intro al
      induction al with
      | nil => intro T0 _; rfl
      | cons a al ih =>
        intro T0 hl0
        rw [List.length_cons] at hl0
        unfold doL
        rw [ms_do hcur _ _ _ (by omega) ve.rg, b1, ih _ (by simp only [List.length_cons]; omega)]
        simp
    have hal : (al.map (fun a => (⟨2, a, 0, e⟩ : TkM))).length = j := by simp [g2]
    refine ⟨⟨2, d.a, 0, e⟩ :: (al.map (fun a => (⟨2, a, 0, e⟩ : TkM)) ++ (⟨22, (hi : Int), (j : Int), e⟩ :: T0)), _, ?_, .eval h1 ve (by simp only [List.length_append, List.length_cons, hal]; omega) ht g3, by omega⟩
    unfold rcall
    rw [show ndG (Go.Sm.ms s (T0 ++ Tk) X) (hi : Int) = some d from Y.nd (nd_pos hd), b1, show argL (Go.Sm.ms s (T0 ++ Tk) X) 3 d.b = some al from g1, b1, ms_do hcur _ _ _ (by omega) ve.rg, b1, hdo _ _ (by simp only [List.length_cons, List.length_reverse]; omega), b1, List.reverse_reverse, ms_do hcur _ _ _ (by simp only [List.length_append, List.length_cons, hal]; omega) ve.rg, g2]
    simp
theorem sim_bind2 (Y : Vw K s m S cn ρ fi c t l F Tk W low ops) {n : Int} {d a b : Nd} {e : Option Nat} {T : List TkM} {lo hi p1 p2 w : Nat} {L1 Lb : List Nm8} (hT : F.T = ⟨7, n, 0, e⟩ :: T) (hn2 : F.no = 2) (hd : nd K.ns n = some d) (ha : nd K.ns d.a = some a) (hb' : nd K.ns a.next = some b) (hs : a.s ≠ [] ∧ b.s ≠ []) (i0 : insP K.P F.x F.pc = some (6, (F.L.length : Int) + 1)) (i1 : insP K.P F.x (F.pc + 1) = some (6, (F.L.length : Int))) (h : Sp K.ns K.P (.sts F.br L1) lo hi F.x F.E (F.L ++ [a.s, b.s]) (F.pc + 2) d.next p1) (lb : Lb <+: F.L) (hz : hidN F.L = hidN Lb) (lv : levS K.P F.x Lb.length L1 p1 p2) (ve : VOf K s m ρ c F F.L e) (hb : T.length + 7 * (hi - lo) ≤ K.HB) (k : KtV K s m ρ c F F.br Lb p2 0 [] T w) : Prog K F.w s (.run S c.th cn m) := by
  obtain ⟨va, vb, ho⟩ := ops2 Y.toVs hn2
  have htl := Y.tlen hT
  have hlo := Y.lo
  have hn := Y.hn
  have hll := Y.fr.ll
  have hsk : t.stack = (low ++ [va]) ++ [vb] := by rw [Y.sk, ho]; simp
  obtain ⟨g1, g2, g3, g4⟩ := Y.N.xsetL (Y.ins i0) hsk
  rw [show ((F.L.length : Int) + 1).toNat = F.L.length + 1 from by omega, Y.hB, List.set_append_left _ _ (by omega)] at g1
  have N1 := Y.N.on g1
  obtain ⟨k1, k2, k3, k4⟩ := N1.xsetL (x := (F.L.length : Int)) (Y.ins i1) (S := low.set (F.B + (F.L.length + 1)) vb) (v := va) rfl
  rw [upd_upd, Int.toNat_natCast, show (c.pc ((F.pc + 1 : Nat) : Int)).B = F.B from Y.hB] at k1
  have k1' : vstepL c.th (upd c m t (low.set (F.B + (F.L.length + 1)) vb ++ [va]) (F.pc + 1)) = some (.ok ev0 (upd c m t ((low.set (F.B + (F.L.length + 1)) vb).set (F.B + F.L.length) va) (F.pc + 2))) := k1
  have N2 := N1.on (X := (low.set (F.B + (F.L.length + 1)) vb).set (F.B + F.L.length) va) (q := F.pc + 2) (by rw [upd_upd]; exact k1')
  rw [upd_upd] at N2
  have hnsl : F.L.length + 2 ≤ F.nsl := by omega
  have hw2 : EnvWf (s.envs ++ [⟨a.s, va, e⟩, ⟨b.s, vb, some s.envs.length⟩]) := by
    have h1 := wf_snoc (nm := a.s) (v := va) Y.R.wf ve.rg
    have h2 := wf_snoc (nm := b.s) (v := vb) (e := some s.envs.length) h1 (fun i hi => by injection hi with hi; subst hi; simp)
    rw [List.append_assoc] at h2
    exact h2
  have hv2 : VOk K.P (s.envs ++ [⟨a.s, va, e⟩, ⟨b.s, vb, some s.envs.length⟩]) (rhoN ρ s.envs.length c.th (F.B + F.L.length) 2) m c.th F.B F.x F.E F.up (F.L ++ [a.s, b.s]) (some (s.envs.length + 1)) := by
    have h1 := VOk.snoc (nm := a.s) (v := va) (ρ' := rhoN ρ s.envs.length c.th (F.B + F.L.length) 1) ve (by have := rhoN_new (ρ := ρ) (n0 := s.envs.length) (th := c.th) (o := F.B + F.L.length) (n := 1) (j := 0) (by omega); rw [Nat.add_zero, Nat.add_zero] at this; exact this) (fun i hi => rhoN_old hi)
    have h2 := VOk.snoc (nm := b.s) (v := vb) (ρ' := rhoN ρ s.envs.length c.th (F.B + F.L.length) 2) h1 (by rw [List.length_append, List.length_singleton, rhoN_new (by omega), List.length_append, List.length_singleton, Nat.add_assoc]) (fun i hi => by
      rw [List.length_append, List.length_singleton] at hi
      by_cases q : i < s.envs.length
      · rw [rhoN_old q, rhoN_old q]
      · have : i = s.envs.length + 0 := by omega
        rw [this, rhoN_new (by omega), rhoN_new (by omega)])
    rw [List.append_assoc, List.append_assoc, List.length_append, List.length_singleton] at h2
    exact h2
  have hc : Chg AllK s.envs ρ m (s.envs ++ [⟨a.s, va, e⟩, ⟨b.s, vb, some s.envs.length⟩]) (rhoN ρ s.envs.length c.th (F.B + F.L.length) 2) m := Chg.new rfl rfl
  have ehid : hidV ((low.set (F.B + (F.L.length + 1)) vb).set (F.B + F.L.length) va) F.B F.L = hidV low F.B F.L := hidV_congr _ _ fun k hk => by have := lt_of hk; rw [List.getElem?_set_ne (by omega), List.getElem?_set_ne (by omega)]
  have R' := Y.binds (nms := [a.s, b.s]) (news := [⟨a.s, va, e⟩, ⟨b.s, vb, some s.envs.length⟩]) (T' := ⟨1, d.next, 0, some (s.envs.length + 1)⟩ :: T) (pc' := F.pc + 2) (low' := (low.set (F.B + (F.L.length + 1)) vb).set (F.B + F.L.length) va) (ops' := []) (by simp) (by rw [List.take_set_of_le (by omega), List.take_set_of_le (by omega)]) (fun k nm h1 h2 => by have := lt_of h1; rw [List.getElem?_set_ne (by omega), List.getElem?_set_ne (by omega)]) (by simpa using hnsl) rfl (fun j nm hj => by
      match j, hj with
      | 0, hj => injection hj with hj; subst hj; exact hs.1
      | 1, hj => injection hj with hj; subst hj; exact hs.2) (fun j ev hj => by
      match j, hj with
      | 0, hj => injection hj with hj; subst hj; exact (List.getElem?_set_self (by rw [List.length_set]; omega))
      | 1, hj => injection hj with hj; subst hj; rw [List.getElem?_set_ne (by omega), Nat.add_assoc, List.getElem?_set_self (by omega)]) hw2 (.block h (lb.trans (List.prefix_append _ _)) (by rw [hidN_app, hz]; simp [hidN, hs.1, hs.2]) lv hv2 hb (k.mono (b := Lb.length) (fun L e hl hv => hv.chg hc fun _ _ _ _ => trivial) (Nl.self _))) rfl tb_nil (fun q hq => by rw [ehid]; exact Y.ivs q hq)
  rw [ehid, List.append_nil ((low.set (F.B + (F.L.length + 1)) vb).set (F.B + F.L.length) va)] at R'
  refine Y.stepN (n := 2) (Y.task hT (by intro q; cases q) (Y.nd hd) ?_) (.step (gstep_ok g1) (.one (gstep_ok k1'))) (by decide) N2.go ⟨rfl, rfl, rfl⟩ R' (fiUp_at _ _ _)
  rw [rt7]
  unfold k7
  have hp1 := Y.pop (T := T ++ Tk) (ops' := [va]) vb (by rw [ho]; simp)
  have hp2 := Y.pop (T := T ++ Tk) (ops' := []) va (by rw [ho]; simp)
  rw [show [va] ++ [vb] = ops from ho.symm] at hp1
  rw [List.nil_append] at hp2
  rw [hp1, b2, hp2, b2, show ndG (Go.Sm.ms s (T ++ Tk) (W ++ (hidV low F.B F.L ++ []))) d.a = some a from Y.nd ha, b1, show ndG (Go.Sm.ms s (T ++ Tk) (W ++ (hidV low F.B F.L ++ []))) a.next = some b from Y.nd hb', b1]
  unfold newE
  rw [if_pos (show ∀ i, e = some i → i < (Go.Sm.ms s (T ++ Tk) (W ++ (hidV low F.B F.L ++ []))).envs.length from ve.rg), b2]
  rw [if_pos (fun i hi => by injection hi with hi; subst hi; show _ < (s.envs ++ [_]).length; simp; exact Nat.lt_succ_self _), b2]
  show rdo 1 d.next 0 (some (s.envs ++ [(⟨a.s, va, e⟩ : EvM)]).length) (Go.Sm.ms { s with envs := s.envs ++ [⟨a.s, va, e⟩] ++ [⟨b.s, vb, some s.envs.length⟩] } (T ++ Tk) (W ++ (hidV low F.B F.L ++ []))) = _
  rw [ms_do (s := { s with envs := s.envs ++ [⟨a.s, va, e⟩] ++ [⟨b.s, vb, some s.envs.length⟩] }) Y.cur _ _ _ (by omega) (fun i hi => by injection hi with hi; subst hi; show _ < (s.envs ++ [_] ++ [_]).length; simp)]
  rw [List.append_assoc, List.length_append, List.length_singleton]
  rfl
end
end Go.Sm
