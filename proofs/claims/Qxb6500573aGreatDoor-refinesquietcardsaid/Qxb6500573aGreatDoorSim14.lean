/- Plain: the interpreter and the machine go on together: conditions, scopes, while. -/
import Derived.Test.Qxb6500573aGreatDoorSim13
namespace Go.Sm
open Go Go.Sl Go.Wl Go.Nm Go.Proofs
set_option linter.unusedVariables false
theorem burn_no {s : RnM} (h : s.fuel = 0) (T : List TkM) (X : List V) : rburn (Go.Sm.ms s T X) = some (false, rfin 9 [45] (Go.Sm.ms s T X)) := by
  unfold rburn
  exact if_pos h
theorem burn_ok {s : RnM} (h : 0 < s.fuel ∧ s.fuel ≤ 9223372036854775807) (T : List TkM) (X : List V) : rburn (Go.Sm.ms s T X) = some (true, Go.Sm.ms { s with fuel := s.fuel - 1 } T X) := by
  unfold rburn
  exact (if_neg (show ¬ s.fuel = 0 by omega)).trans (if_pos h)
section
variable {K : Cn} {s : RnM} {m : VM} {S : List Nat} {cn : Int} {ρ : Nat → Option Plc} {fi : Nat → List FI} {c : Cx} {t : Th} {l : List FI} {F : FI} {Tk : List TkM} {W low ops : List V}
theorem sim_cond (Y : Vw K s m S cn ρ fi c t l F Tk W low ops) {m1 m2 m3 p2 p3 p4 p5 w : Nat} {n : Int} {d : Nd} {e : Option Nat} {T : List TkM} {L1 L2 : List Nm8} (hT : F.T = ⟨11, n, 0, e⟩ :: T) (hn1 : F.no = 1) (hd : nd K.ns n = some d) (i1 : insP K.P F.x F.pc = some (22, ((p3 + 1 : Nat) : Int))) (h2 : Sp K.ns K.P (.sts F.br L1) m1 m2 F.x F.E F.L (F.pc + 1) d.b p2) (v2 : levS K.P F.x F.L.length L1 p2 p3) (i2 : insP K.P F.x p3 = some (21, (p5 : Int))) (h3 : Sp K.ns K.P (.sts F.br L2) m2 m3 F.x F.E F.L (p3 + 1) d.c p4) (v3 : levS K.P F.x F.L.length L2 p4 p5) (ve : VOf K s m ρ c F F.L e) (hb : T.length + 7 * (m3 - m1) ≤ K.HB) (k : KtV K s m ρ c F F.br F.L p5 0 [] T w) : Prog K F.w s (.run S c.th cn m) := by
  obtain ⟨v, ho⟩ := ops1 Y.toVs hn1
  have htl := Y.tlen hT
  have r2 := h2.reg
  have r3 := h3.reg
  have l2 := v2.le
  have l3 := v3.le
  have hp := Y.pop (T := T ++ Tk) (ops' := []) v (by rw [ho]; simp)
  rw [List.nil_append, ← ho] at hp
  have g := Y.N.xjf (q := p3 + 1) (Y.ins i1) (by omega) (S := low) (v := v) (by rw [Y.sk, ho])
  by_cases c1 : truthy v = true
  · rw [if_pos c1] at g
    refine Y.step (br' := F.br) (T' := ⟨1, d.b, 0, e⟩ :: T) (ops' := []) (Y.task hT (by intro q; cases q) (Y.nd hd) ?_) (by rw [g, List.append_nil]) (.block h2 (List.prefix_refl _) rfl v2 ve (by omega) (.jmp i2 (by omega) k)) rfl tb_nil
    rw [rt11, hp, b2, if_pos c1, ms_do Y.cur _ _ _ (by omega) ve.rg]
    rfl
  · rw [if_neg c1] at g
    refine Y.step (br' := F.br) (T' := ⟨1, d.c, 0, e⟩ :: T) (ops' := []) (Y.task hT (by intro q; cases q) (Y.nd hd) ?_) (by rw [g, List.append_nil]) (.block h3 (List.prefix_refl _) rfl v3 ve (by omega) k) rfl tb_nil
    rw [rt11, hp, b2, if_neg c1, ms_do Y.cur _ _ _ (by omega) ve.rg]
    rfl
theorem sim_loop (Y : Vw K s m S cn ρ fi c t l F Tk W low ops) {w : Nat} {h : Int} {br' : Brk} {T : List TkM} (hT : F.T = ⟨4, 0, h, none⟩ :: T) (hn0 : F.no = 0) (ht0 : F.tb = []) (hw : w < F.w) (k : KtV K s m ρ c F br' F.L F.pc 0 [] T w) : Prog K F.w s (.run S c.th cn m) :=
  Y.admin (L' := F.L) (Y.task hT (by intro q; cases q) Y.nd0 rfl) (by rw [hn0, ht0]; exact k) hw
theorem sim_cls (Y : Vw K s m S cn ρ fi c t l F Tk W low ops) {w : Nat} (hn0 : F.no = 0) (i : insP K.P F.x F.pc = some (29, (F.L.length : Int))) (k : KtV K s m ρ c F F.br F.L (F.pc + 1) 0 [] F.T w) : Prog K F.w s (.run S c.th cn m) :=
  Y.leave (ops0 Y.toVs hn0) (by rw [Y.ms]; exact .refl _) (List.prefix_refl _) rfl i rfl k
theorem sim_whl (Y : Vw K s m S cn ρ fi c t l F Tk W low ops) {lo m1 m2 p1 p2 p3 w : Nat} {n : Int} {d : Nd} {e : Option Nat} {T : List TkM} {L1 : List Nm8} (hT : F.T = ⟨12, n, 0, e⟩ :: T) (hn0 : F.no = 0) (ht0 : F.tb = []) (hw : F.w = w + (6 * (m1 - lo) + 3)) (hd : nd K.ns n = some d) (D : WhD K.ns K.P F.x F.E F.L d F.pc p1 p2 p3 lo m1 m2 L1) (ve : VOf K s m ρ c F F.L e) (hb : T.length + 7 * (m2 - lo) + 1 ≤ K.HB) (hl : lo ≤ m1 ∧ m1 ≤ m2) (k : KtV K s m ρ c F (some (F.L.length, p3 + 1)) F.L (p3 + 1) 0 [] T w) : Prog K F.w s (.run S c.th cn m) := by
  have htl := Y.tlen hT
  refine Y.admin (br' := some (F.L.length, p3 + 1)) (L' := F.L) (T' := ⟨2, d.a, 0, e⟩ :: ⟨13, n, 0, e⟩ :: T) (Y.task hT (by intro q; cases q) (Y.nd hd) ?_) (by rw [hn0, ht0]; exact .eval D.h1 ve (by simp only [List.length_cons]; omega) (fun p hp => by cases hp) (.whlT hd D ve hb hl k)) (by omega)
  rw [rt12, ms_do Y.cur _ _ _ (by omega) ve.rg, b1, ms_do Y.cur _ _ _ (by simp only [List.length_cons]; omega) ve.rg]
  rfl
theorem sim_whlT (Y : Vw K s m S cn ρ fi c t l F Tk W low ops) {top lo m1 m2 p2 p3 w : Nat} {n : Int} {d : Nd} {e : Option Nat} {T : List TkM} {L1 : List Nm8} (hT : F.T = ⟨13, n, 0, e⟩ :: T) (hn1 : F.no = 1) (hd : nd K.ns n = some d) (D : WhD K.ns K.P F.x F.E F.L d top F.pc p2 p3 lo m1 m2 L1) (ve : VOf K s m ρ c F F.L e) (hb : T.length + 7 * (m2 - lo) + 1 ≤ K.HB) (hl : lo ≤ m1 ∧ m1 ≤ m2) (k : KtV K s m ρ c F (some (F.L.length, p3 + 1)) F.L (p3 + 1) 0 [] T w) : Prog K F.w s (.run S c.th cn m) := by
  obtain ⟨v, ho⟩ := ops1 Y.toVs hn1
  have htl := Y.tlen hT
  have hD := D.le
  have hp := Y.pop (T := T ++ Tk) (ops' := []) v (by rw [ho]; simp)
  rw [List.nil_append, ← ho] at hp
  have g := Y.N.xjf (q := p3 + 1) (Y.ins D.i1) (by omega) (S := low) (v := v) (by rw [Y.sk, ho])
  by_cases c1 : truthy v = true
  · rw [if_pos c1] at g
    refine Y.step (br' := some (F.L.length, p3 + 1)) (T' := ⟨1, d.b, 0, e⟩ :: ⟨14, n, 0, e⟩ :: T) (ops' := []) (Y.task hT (by intro q; cases q) (Y.nd hd) ?_) (by rw [g, List.append_nil]) (.block D.h2 (List.prefix_refl _) rfl D.v2 ve (by simp only [List.length_cons]; omega) (.whlB hd D ve hb hl k)) rfl tb_nil
    rw [rt13, hp, b2, if_pos c1, ms_do Y.cur _ _ _ (by omega) ve.rg, b1, ms_do Y.cur _ _ _ (by simp only [List.length_cons]; omega) ve.rg]
    rfl
  · rw [if_neg c1] at g
    refine Y.step (T' := T) (ops' := []) (Y.task hT (by intro q; cases q) (Y.nd hd) ?_) (by rw [g, List.append_nil]) k rfl tb_nil
    rw [rt13, hp, b2, if_neg c1]
/-- Back to a loop's head. -/
theorem Vw.round (Y : Vw K s m S cn ρ fi c t l F Tk W low ops) {top w : Nat} {n kk : Int} {q : TkM} {d : Nd} {T : List TkM} {br' : Brk} (hT : F.T = q :: T) (hq : q.k ≠ 3) (hn0 : F.no = 0) (hd : Go.Wl.nd K.ns q.n = some d) (hr : ∀ m, rtask q d m = kBack kk q m) (i : insP K.P F.x F.pc = some (21, (top : Int))) (hle : top ≤ F.pc) (he : ∀ i, q.e = some i → i < s.envs.length) (k : KtV K s m ρ c F br' F.L top 0 [] (⟨kk, q.n, 0, q.e⟩ :: T) w) : Prog K F.w s (.run S c.th cn m) := by
  have hops := ops0 Y.toVs hn0
  have htl := Y.tlen hT
  have hfu := Y.N.run.mi.fu
  have hf := Y.R.fu
  rcases Y.N.xback (Y.ins i) hle with ⟨h0, g⟩ | ⟨h0, g⟩
  · refine Y.trap (e := 9) (s1 := Go.Sm.ms s (T ++ Tk) (W ++ (hidV low F.B F.L ++ ops))) (m1 := m) (Y.task hT hq (Y.nd hd) ?_) Y.R.fu Y.R.ou rfl g ⟨_, Y.R.ts⟩
    rw [hr]
    unfold kBack
    rw [burn_no (by omega), b2, if_neg (by intro q; cases q)]
  · have es : ({ s with fuel := m.vs.fuel - 1, out := m.vs.out, ts := s.ts } : RnM) = { s with fuel := s.fuel - 1 } := by rw [← Y.R.ou, ← hf]
    refine Y.stepG (fu := m.vs.fuel - 1) (ou := m.vs.out) Y.R.ts (fun _ _ h => h) (ops' := ops) (Y.task hT hq (Y.nd hd) ?_) (by rw [g, Y.sk]) k (by rw [hops]; rfl) tb_nil
    rw [hr]
    unfold kBack
    rw [burn_ok (by omega), b2, if_pos rfl, es]
    exact ms_do (s := { s with fuel := s.fuel - 1 }) Y.cur _ _ _ (by omega) he
theorem sim_whlB (Y : Vw K s m S cn ρ fi c t l F Tk W low ops) {top lo m1 m2 p1 p2 w : Nat} {n : Int} {d : Nd} {e : Option Nat} {T : List TkM} {L1 : List Nm8} (hT : F.T = ⟨14, n, 0, e⟩ :: T) (hn0 : F.no = 0) (hd : nd K.ns n = some d) (D : WhD K.ns K.P F.x F.E F.L d top p1 p2 F.pc lo m1 m2 L1) (ve : VOf K s m ρ c F F.L e) (hb : T.length + 7 * (m2 - lo) + 1 ≤ K.HB) (hl : lo ≤ m1 ∧ m1 ≤ m2) (k : KtV K s m ρ c F (some (F.L.length, F.pc + 1)) F.L (F.pc + 1) 0 [] T w) : Prog K F.w s (.run S c.th cn m) :=
  Y.round (n := n) (kk := 12) (q := ⟨14, n, 0, e⟩) hT (by intro q; cases q) hn0 hd (fun m => rt14 n 0 e d m) D.i2 (by have := D.le; omega) ve.rg (.whl hd D ve hb hl k)
end
end Go.Sm
