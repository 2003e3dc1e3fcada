/- Plain: the interpreter and the machine go on together: a loop over a table, its round. -/
import Derived.Test.Qxb6500573aGreatDoorSim19
namespace Go.Sm
open Go Go.Sl Go.Wl Go.Nm Go.Proofs
set_option linter.unusedVariables false
section
variable {K : Cn} {s : RnM} {m : VM} {S : List Nat} {cn : Int} {ρ : Nat → Option Plc} {fi : Nat → List FI} {c : Cx} {t : Th} {l : List FI} {F : FI} {Tk : List TkM} {W low ops : List V}
theorem sim_inB (Y : Vw K s m S cn ρ fi c t l F Tk W low ops) {p1 p5 m2 m3 w : Nat} {n : Int} {d dk dv : Nd} {e : Option Nat} {T : List TkM} {L L1 : List Nm8} {iv : List Nat} (hT : F.T = ⟨20, n, 0, e⟩ :: T) (hL : F.L = L ++ [[], [], dk.s, dv.s]) (hn0 : F.no = 0) (ht0 : F.tb = []) (hI : F.iv = hidN L :: iv) (hd : nd K.ns n = some d) (D : InD K.ns K.P F.x F.E L d dk dv p1 F.pc p5 m2 m3 L1) (ve : VOf K s m ρ c F L e) (hb : T.length + 7 * (m3 - m2) + 1 ≤ K.HB) (hiv : ∀ q, q ∈ iv → q + 2 ≤ hidN L) (k : Kt K.ns K.P F.x F.E K.HB (VOk K.P s.envs ρ m c.th F.B F.x F.E F.up) F.h (if c.f.prot = true then 1 else 0) iv (some (L.length, F.pc + 2)) L (F.pc + 2) 0 [] T w) : Prog K F.w s (.run S c.th cn m) := by
  have hops := ops0 Y.toVs hn0
  have htl := Y.tlen hT
  have hsk : t.stack = low := by rw [Y.sk, hops, List.append_nil]
  have hlo := Y.lo
  have hll := Y.fr.ll
  have hle := D.le
  have hfu := Y.N.run.mi.fu
  have hf := Y.R.fu
  have hlen : F.L.length = L.length + 4 := by rw [hL]; simp
  have hr := D.hr
  obtain ⟨o, cs, g1, gC⟩ := Y.N.xclose (Y.ins hr.k0)
  rw [Y.hB] at gC
  rw [hsk] at g1
  have N1 := Y.N.after g1 (setTh_at (m := { m with vs := { m.vs with cells := cs } }) Y.ht) rfl (fun _ _ h => h)
  have g2 := N1.xback (q := p1 + 3) (Y.ins hr.k1) (by omega)
  have eL : F.L = (L ++ [[], []]) ++ [dk.s, dv.s] := by rw [hL]; simp
  have eN : hidN F.L = hidN (L ++ [[], []]) := by rw [eL, hidN_app]; simp [hidN, D.hs.1, D.hs.2]
  have eV : hidV low F.B F.L = hidV low F.B (L ++ [[], []]) := hidV_pre (by rw [eL]; exact List.prefix_append _ _) eN
  rcases g2 with ⟨f0, g2⟩ | ⟨f0, g2⟩
  · have f0' : m.vs.fuel = 0 := f0
    refine Y.trapN (e := 9) (s1 := Go.Sm.ms s (T ++ Tk) (W ++ (hidV low F.B F.L ++ ops))) (Y.task hT (by intro q; cases q) (Y.nd hd) ?_) (by exact Y.R.fu) (by exact Y.R.ou) rfl (.one (gstep_ok g1)) g2 (by exact ⟨_, Y.R.ts⟩)
    rw [rt20]
    unfold kBack
    rw [burn_no (by omega), b2, if_neg (by intro q; cases q)]
  · have f0' : 0 < m.vs.fuel := f0
    have R1 := Y.closeTo (iv' := F.iv) (L' := L ++ [[], []]) (br' := some (L.length, F.pc + 2)) (T' := ⟨19, n, 0, e⟩ :: T) (pc' := p1 + 3) (w' := w + 1) (b := L.length + 2) (o := o) (low' := low) hops (fun k nm q1 q2 q3 => by
        rw [eL, List.getElem?_append_left (by simp; omega)] at q2
        exact q2) (by simp) (by simp; omega) rfl rfl (fun _ _ _ _ => rfl) gC (by rw [hI]; exact .inT hd D ve hb hiv k) (fun q hq => by
        rw [← eV, ← eN]
        exact Y.ivs q hq)
    have R2 := R1.glob (fu := m.vs.fuel - 1) (ou := m.vs.out) (tb := m.vs.tabs) (ts := s.ts) Y.R.ts (fun _ _ h => h)
    have g2' : vstepL c.th (upd c { m with vs := { m.vs with cells := cs } } { t with opn := o } low (F.pc + 1)) = some (.ok ev0 (upd c { m with vs := { m.vs with cells := cs, fuel := m.vs.fuel - 1 } } { t with opn := o } low (p1 + 3))) := g2.trans (congrArg (fun z => some (Out.ok ev0 z)) (upd_fuel c { m with vs := { m.vs with cells := cs } } { t with opn := o } _ _ _ _ _))
    have N2 := N1.after g2' (setTh_at (m := { m with vs := { m.vs with cells := cs, fuel := m.vs.fuel - 1 } }) Y.ht) rfl (fun _ _ h => h)
    refine Y.stepN (n := 2) (Y.task hT (by intro q; cases q) (Y.nd hd) ?_) (.step (gstep_ok g1) (.one (gstep_ok g2'))) (by decide) N2.go ⟨rfl, rfl, rfl⟩ R2 (fiUp_at _ _ _)
    have es : ({ s with fuel := m.vs.fuel - 1, out := m.vs.out, ts := s.ts } : RnM) = { s with fuel := s.fuel - 1 } := by rw [← Y.R.ou, ← hf]
    rw [rt20]
    unfold kBack
    rw [burn_ok (by omega), b2, if_pos rfl, ms_do (s := { s with fuel := s.fuel - 1 }) Y.cur _ _ _ (by omega) ve.rg, ← es, hops, ← eV]
    rfl
end
end Go.Sm
