/- Plain: the interpreter and the machine go on together: builtins that answer at once. -/
import Derived.Test.Qxb6500573aGreatDoorSim23
namespace Go.Sm
open Go Go.Sl Go.Wl Go.Nm Go.Proofs
set_option linter.unusedVariables false
/-- A call at hand, with fuel left. -/
structure Cl22 (K : Cn) (s : RnM) (m : VM) (S : List Nat) (cn : Int) (ρ : Nat → Option Plc) (fi : Nat → List FI) (c : Cx) (t : Th) (l : List FI) (F : FI) (Tk : List TkM) (W low ops : List V) (n : Int) (e : Option Nat) (T : List TkM) (no w : Nat) (ops' args : List V) (f : V) : Prop extends Vw K s m S cn ρ fi c t l F Tk W low ops where
  hT : F.T = ⟨22, n, (args.length : Int), e⟩ :: T
  hnd : ∃ d, Go.Wl.nd K.ns n = some d
  hj : args.length ≤ 3
  ho : ops = ops' ++ [f] ++ args
  hno : no = ops'.length
  htb : ∀ p, p ∈ F.tb → p < no
  hk : KtV K s m ρ c F F.br F.L (F.pc + 1) (no + 2) F.tb T w
  hf : 0 < s.fuel ∧ s.fuel ≤ 9223372036854775807
  hv : vstepL c.th m = callF c.th (low ++ ops').length f args (upd c { m with vs := { m.vs with fuel := m.vs.fuel - 1 } } t t.stack (F.pc + 1))
section
variable {K : Cn} {s : RnM} {m : VM} {S : List Nat} {cn : Int} {ρ : Nat → Option Plc} {fi : Nat → List FI} {c : Cx} {t : Th} {l : List FI} {F : FI} {Tk : List TkM} {W low ops : List V} {n : Int} {e : Option Nat} {T : List TkM} {no w : Nat} {ops' args : List V} {f : V}
theorem Cl22.sk2 (Y : Cl22 K s m S cn ρ fi c t l F Tk W low ops n e T no w ops' args f) : t.stack = (low ++ ops') ++ ([f] ++ args) := by
  rw [Y.sk, Y.ho]
  simp only [List.append_assoc]
theorem Cl22.fin (Y : Cl22 K s m S cn ρ fi c t l F Tk W low ops n e T no w ops' args f) (ou : List UInt8) (r1 r2 : V) : finM c.th (low ++ ops').length (r1, r2) { upd c { m with vs := { m.vs with fuel := m.vs.fuel - 1 } } t t.stack (F.pc + 1) with vs := { (upd c { m with vs := { m.vs with fuel := m.vs.fuel - 1 } } t t.stack (F.pc + 1)).vs with out := ou } } = some (.ok ev0 (upd c { m with vs := { m.vs with fuel := m.vs.fuel - 1, out := ou, tabs := m.vs.tabs } } t (low ++ (ops' ++ [r1, r2])) (F.pc + 1))) := by
  have hsm := Y.N.small
  refine (fin_x (Z := low ++ ops') (R := [f] ++ args) (t := { t with frames := c.fs ++ [{ c.f with pc := ((F.pc + 1 : Nat) : Int) }] }) (by exact upd_at c { m with vs := { m.vs with fuel := m.vs.fuel - 1 } } Y.ht _ _) Y.sk2 (by dsimp only; omega) r1 r2).trans ?_
  unfold upd setTh
  dsimp only
  rw [List.set_set, List.append_assoc]
/-- Both answer two values. -/
theorem Cl22.two (Y : Cl22 K s m S cn ρ fi c t l F Tk W low ops n e T no w ops' args f) (h6 : f.t = 6) (hn : 0 ≤ f.n ∧ f.n < 1000000) {ou : List UInt8} {r1 r2 : V} (hm : rbuilt f.n (args.getD 0 V.nil) (args.getD 1 V.nil) (Go.Sm.ms { s with fuel := s.fuel - 1 } (T ++ Tk) (W ++ (hidV low F.B F.L ++ ops'))) = rfin2 r1 r2 (Go.Sm.ms { s with fuel := s.fuel - 1, out := ou } (T ++ Tk) (W ++ (hidV low F.B F.L ++ ops')))) (hb : callB c.th (low ++ ops').length f.n (args.getD 0 V.nil) (args.getD 1 V.nil) (upd c { m with vs := { m.vs with fuel := m.vs.fuel - 1 } } t t.stack (F.pc + 1)) = finM c.th (low ++ ops').length (r1, r2) { upd c { m with vs := { m.vs with fuel := m.vs.fuel - 1 } } t t.stack (F.pc + 1) with vs := { (upd c { m with vs := { m.vs with fuel := m.vs.fuel - 1 } } t t.stack (F.pc + 1)).vs with out := ou } }) : Prog K F.w s (.run S c.th cn m) := by
  obtain ⟨d, hd⟩ := Y.hnd
  have hl : ops.length = ops'.length + 1 + args.length := by rw [Y.ho]; simp; omega
  refine Y.toVw.res (ou := ou) (ops' := ops') (r1 := r1) (r2 := r2) Y.R.ts (fun _ _ h => h) Y.hno (by omega) Y.htb ⟨[f] ++ args, by rw [Y.ho, List.append_assoc]⟩ (fun s' h => Y.toVw.apply Y.hT hd Y.hj Y.ho rfl Y.hf ?_) ?_ Y.hk
  · rw [if_neg (by omega), if_neg (by omega), if_pos hn, hm, ← h, ← Y.R.fu]
  · rw [Y.hv]
    unfold callF
    rw [if_neg (by omega), if_neg (by omega), hb, Y.fin]
end
end Go.Sm
