/- Plain: the interpreter and the machine go on together: a counting loop's test. -/
import Derived.Test.Qxb6500573aGreatDoorSim15
namespace Go.Wl
open Go Go.Sl Go.Proofs
set_option linter.unusedVariables false
/-- The thread goes on. -/
theorem Now.on2 {c : Cx} {m : VM} {t : Th} {X Y : List V} {q1 q2 : Nat} (N : Now (c.pc (q1 : Nat)) (upd c m t X q1) { t with stack := X, frames := c.fs ++ [{ c.f with pc := (q1 : Nat) }] } q1) (h : vstepL c.th (upd c m t X q1) = some (.ok ev0 (upd c m t Y q2))) : Now (c.pc (q2 : Nat)) (upd c m t Y q2) { t with stack := Y, frames := c.fs ++ [{ c.f with pc := (q2 : Nat) }] } q2 := by
  have h2 := N.on (X := Y) (q := q2) (by rw [upd_upd]; exact h)
  rw [upd_upd] at h2
  exact h2
end Go.Wl
namespace Go.Sm
open Go Go.Sl Go.Wl Go.Nm Go.Proofs
set_option linter.unusedVariables false
section
variable {K : Cn} {s : RnM} {m : VM} {S : List Nat} {cn : Int} {ρ : Nat → Option Plc} {fi : Nat → List FI} {c : Cx} {t : Th} {l : List FI} {F : FI} {Tk : List TkM} {W low ops : List V}
theorem NxAt.hid {tabs : List Tb} {S : List V} {B q : Nat} {L R : List Nm8} (h : NxAt tabs (hidV S B (L ++ R)) q) (hq : q + 2 ≤ hidN L) : NxAt tabs (hidV S B L) q := by
  rw [hidV_app] at h
  exact h.pre (by rw [hidV_len]; exact hq)
theorem named_pre {L R : List Nm8} (hR : ∀ nm, nm ∈ R → nm = []) {k : Nat} {nm : Nm8} (h : (L ++ R)[k]? = some nm) (hn : nm ≠ []) : L[k]? = some nm := by
  by_cases c : k < L.length
  · rw [List.getElem?_append_left c] at h; exact h
  · rw [List.getElem?_append_right (by omega)] at h
    exact absurd (hR nm (List.mem_of_getElem? h)) hn
theorem truthy_bool (b : Bool) : truthy (boolV b) = b := by cases b <;> rfl
theorem sim_forT (Y : Vw K s m S cn ρ fi c t l F Tk W low ops) {p3 p4 p5 m3 m4 w : Nat} {n : Int} {d : Nd} {e : Option Nat} {T : List TkM} {L L1 : List Nm8} (hT : F.T = ⟨16, n, 0, e⟩ :: T) (hL : F.L = L ++ [[], [], []]) (hpc : F.pc = p3 + 2) (hn0 : F.no = 0) (ht0 : F.tb = []) (hd : nd K.ns n = some d) (D : FoD K.ns K.P F.x F.E L d p3 p4 p5 m3 m4 L1) (ve : VOf K s m ρ c F L e) (hb : T.length + 7 * (m4 - m3) + 1 ≤ K.HB) (hiv : ∀ q, q ∈ F.iv → q + 2 ≤ hidN L) (k : KtV K s m ρ c F (some (L.length, p4 + 6)) L (p4 + 6) 0 [] T w) : Prog K F.w s (.run S c.th cn m) := by
  have hops := ops0 Y.toVs hn0
  have htl := Y.tlen hT
  have hsk : t.stack = low := by rw [Y.sk, hops, List.append_nil]
  obtain ⟨a, b, v, h0, h1, h2, e1, va, vb, vv, t3, t2, t1⟩ := Y.hid3 hL hops
  have hlo := Y.lo
  have hbase := Y.base
  have hle := D.le
  have hlen : F.L.length = L.length + 3 := by rw [hL]; simp
  have hj := D.hr.j2
  rw [← hpc] at hj
  obtain ⟨_, f1, f2⟩ := Y.N.for3 (Y.ins hj) (.inr (.inl rfl))
  have hnsl := Y.hn
  have hnum : numR a = true ∧ numR b = true ∧ numR v = true := ⟨Y.numr va, Y.numr vb, Y.numr vv⟩
  have g := Y.N.xtest (Y.ins hj) (v0 := a) (v1 := b) (v2 := v) (by rw [hsk, Y.hB, Int.toNat_natCast]; exact h0) (by rw [hsk, Y.hB, Int.toNat_natCast]; exact h1) (by rw [hsk, Y.hB, Int.toNat_natCast]; exact h2) hnum
  generalize hr : (if cmpM 5 v.n.toNat 0 = true then cmpM 4 a.n.toNat b.n.toNat else cmpM 6 a.n.toNat b.n.toNat) = r at g
  have N1 := Y.N.on g
  have g2 := N1.xjf (q := p4 + 6) (Y.ins (by rw [hpc]; exact D.hr.j3)) (by omega) (S := t.stack) (v := boolV r) rfl
  rw [upd_upd, truthy_bool] at g2
  cases r with
  | false =>
    rw [if_neg (by decide), hsk] at g2
    rw [hsk] at g
    rw [hsk] at N1
    have N2 := N1.on2 g2
    have R' := Y.loc (iv' := F.iv) (L' := L) (low' := low) (ops' := []) rfl rfl (fun k nm h hn => ⟨named_pre (R := [[], [], []]) (by simp) (by rw [← hL]; exact h) hn, rfl⟩) (by have := Y.fr.ll; omega) k rfl tb_nil (fun q hq => ⟨hiv q hq, NxAt.hid (by rw [← hL]; exact (Y.ivs q hq).2) (hiv q hq)⟩)
    rw [List.append_nil low] at R'
    refine Y.stepN (n := 2) (Y.task hT (by intro q; cases q) (Y.nd hd) ?_) (.step (gstep_ok g) (.one (gstep_ok g2))) (by decide) N2.go ⟨rfl, rfl, rfl⟩ R' (fiUp_at _ _ _)
    rw [rt16]
    unfold k16
    rw [t3, b1, t2, b1, t1, b1, if_pos hnum, if_pos hr, ms_cut (W := W ++ (hidV low F.B F.L ++ ops)) Y.cur (by simp only [List.length_append]; omega) (by rw [e1]; simp; omega)]
    have eX : W ++ (hidV low F.B F.L ++ ops) = (W ++ hidV low F.B L) ++ [a, b, v] := by rw [e1, hops, List.append_nil, List.append_assoc]
    rw [eX, List.append_nil, show ((W ++ hidV low F.B L) ++ [a, b, v]).length - 3 = (W ++ hidV low F.B L).length from by rw [List.length_append]; rfl, List.take_left]
  | true =>
    rw [if_pos rfl, hsk] at g2
    rw [hsk] at g
    rw [hsk] at N1
    have N2 := N1.on2 g2
    have g3 := N2.xgetL (x := (L.length : Int)) (Y.ins (by rw [hpc]; exact D.hr.j4)) (v := a) (by rw [Int.toNat_natCast]; show low[c.B + L.length]? = _; rw [Y.hB]; exact h0)
    rw [upd_upd] at g3
    have N3 := N2.on2 g3
    obtain ⟨g4, k2, k3, k4⟩ := N3.xsetL (x := ((L.length + 3 : Nat) : Int)) (Y.ins (by rw [hpc]; exact D.hr.j5)) (S := low) (v := a) rfl
    rw [upd_upd, Int.toNat_natCast, show (c.pc ((F.pc + 1 + 1 + 1 : Nat) : Int)).B = F.B from Y.hB] at g4
    have N4 := N3.on2 g4
    have eL : F.L ++ [d.s] = L ++ [[], [], [], d.s] := by rw [hL]; simp
    have ehid : hidV (low.set (F.B + (L.length + 3)) a) F.B F.L = hidV low F.B F.L := hidV_congr _ _ fun k hk => by rw [List.getElem?_set_ne (by have := lt_of hk; omega)]
    have ve3 : VOf K s m ρ c F F.L e := by
      have := VOk.hid (VOk.hid (VOk.hid ve))
      rw [show L ++ [[]] ++ [[]] ++ [[]] = F.L from by rw [hL]; simp] at this
      exact this
    have hc : Chg AllK s.envs ρ m (s.envs ++ [⟨d.s, a, e⟩]) (rhoN ρ s.envs.length c.th (F.B + F.L.length) 1) m := Chg.new rfl rfl
    have R' := Y.binds (iv' := F.iv) (nms := [d.s]) (news := [⟨d.s, a, e⟩]) (br' := some (L.length, p4 + 6)) (no' := 0) (tb' := []) (T' := ⟨1, d.b, 0, some s.envs.length⟩ :: ⟨17, n, 0, e⟩ :: T) (pc' := F.pc + 1 + 1 + 1 + 1) (w' := w + 1 + (6 * (m4 - m3) + 1)) (low' := low.set (F.B + (L.length + 3)) a) (ops' := []) (by simp) (by rw [List.take_set_of_le (by omega)]) (fun k nm h1 h2 => by rw [List.getElem?_set_ne (by have := lt_of h1; omega)]) (by simp; omega) rfl (fun j nm hj => by
        match j, hj with
        | 0, hj => injection hj with hj; subst hj; exact D.hs) (fun j ev hj => by
        match j, hj with
        | 0, hj => injection hj with hj; subst hj; show (low.set (F.B + (L.length + 3)) a)[F.B + F.L.length]? = some a; rw [hlen, List.getElem?_set_self (by omega)]) (wf_snoc Y.R.wf ve.rg) (by
        have hv := VOk.snoc (nm := d.s) (v := a) (ρ' := rhoN ρ s.envs.length c.th (F.B + F.L.length) 1) ve3 (by have := rhoN_new (ρ := ρ) (n0 := s.envs.length) (th := c.th) (o := F.B + F.L.length) (n := 1) (j := 0) (by omega); rw [Nat.add_zero, Nat.add_zero] at this; exact this) (fun i hi => rhoN_old hi)
        rw [eL] at hv ⊢
        rw [hpc]
        exact .block D.hb (List.prefix_refl _) rfl (by rw [show (L ++ [[], [], [], d.s]).length = L.length + 4 from by simp]; exact D.hv) hv (by simp only [List.length_cons]; omega) (.forB hd D (ve.chg hc fun _ _ _ _ => trivial) hb hiv (k.mono (b := L.length) (fun L e hl hv => hv.chg hc fun _ _ _ _ => trivial) (Nl.self _)))) rfl tb_nil (fun q hq => by rw [ehid]; exact Y.ivs q hq)
    rw [ehid, List.append_nil (low.set (F.B + (L.length + 3)) a)] at R'
    refine Y.stepN (n := 4) (Y.task hT (by intro q; cases q) (Y.nd hd) ?_) (.step (gstep_ok g) (.step (gstep_ok g2) (.step (gstep_ok g3) (.one (gstep_ok g4))))) (by decide) N4.go ⟨rfl, rfl, rfl⟩ R' (fiUp_at _ _ _)
    rw [rt16]
    unfold k16
    rw [t3, b1, t2, b1, t1, b1, if_pos hnum, if_neg (by rw [hr]; decide), ms_do Y.cur _ _ _ (by omega) ve.rg, b1]
    unfold newE
    rw [if_pos (show ∀ i, e = some i → i < (Go.Sm.ms s (⟨17, n, 0, e⟩ :: (T ++ Tk)) (W ++ (hidV low F.B F.L ++ ops))).envs.length from ve.rg), b2]
    show rdo 1 d.b 0 (some s.envs.length) (Go.Sm.ms { s with envs := s.envs ++ [⟨d.s, a, e⟩] } (⟨17, n, 0, e⟩ :: (T ++ Tk)) (W ++ (hidV low F.B F.L ++ ops))) = _
    rw [ms_do (s := { s with envs := s.envs ++ [⟨d.s, a, e⟩] }) Y.cur _ _ _ (by simp only [List.length_cons]; omega) (fun i hi => by injection hi with hi; subst hi; show _ < (s.envs ++ [_]).length; simp), hops]
    rfl
end
end Go.Sm
