/- Plain: the interpreter and the machine go on together: builtins that throw; next, status. -/
import Derived.Test.Qxb6500573aGreatDoorSim25
namespace Go.Sm
open Go Go.Sl Go.Wl Go.Nm Go.Proofs
set_option linter.unusedVariables false
section
variable {K : Cn} {s : RnM} {m : VM} {S : List Nat} {cn : Int} {ρ : Nat → Option Plc} {fi : Nat → List FI} {c : Cx} {t : Th} {l : List FI} {F : FI} {Tk : List TkM} {W low ops : List V} {n : Int} {e : Option Nat} {T : List TkM} {no w : Nat} {ops' args : List V} {f : V}
/-- The call throws on both sides. -/
theorem Cl22.thr (Y : Cl22 K s m S cn ρ fi c t l F Tk W low ops n e T no w ops' args f) {v : V} (hm : (if f.t = 5 then (if 8 ≤ (thG s).depth then rraise [100, 101, 112, 116, 104] (Go.Sm.ms { s with fuel := s.fuel - 1 } (T ++ Tk) (W ++ (hidV low F.B F.L ++ ops'))) else if 0 ≤ f.n ∧ f.n < 1000000 then renter f.n args 0 (Go.Sm.ms { s with fuel := s.fuel - 1 } (T ++ Tk) (W ++ (hidV low F.B F.L ++ ops'))) else none)
      else if f.t ≠ 6 then rraise [99, 97, 108, 108] (Go.Sm.ms { s with fuel := s.fuel - 1 } (T ++ Tk) (W ++ (hidV low F.B F.L ++ ops')))
      else if 0 ≤ f.n ∧ f.n < 1000000 then rbuilt f.n (args.getD 0 V.nil) (args.getD 1 V.nil) (Go.Sm.ms { s with fuel := s.fuel - 1 } (T ++ Tk) (W ++ (hidV low F.B F.L ++ ops'))) else none) = rthrow v (Go.Sm.ms { s with fuel := s.fuel - 1 } (T ++ Tk) (W ++ (hidV low F.B F.L ++ ops')))) (hb : callF c.th (low ++ ops').length f args (upd c { m with vs := { m.vs with fuel := m.vs.fuel - 1 } } t t.stack (F.pc + 1)) = some (.thr v (upd c { m with vs := { m.vs with fuel := m.vs.fuel - 1 } } t t.stack (F.pc + 1)))) : Prog K F.w s (.run S c.th cn m) := by
  obtain ⟨d, hd⟩ := Y.hnd
  have hv := Y.hv
  rw [hb] at hv
  obtain ⟨o, g1, g2⟩ := step_ok Y.N.go
  rw [hv] at g1
  injection g1 with g1
  subst g1
  obtain ⟨c', ty, q1, q2, q3, q4, q5, q6, q7, q8⟩ := g2
  have htl := Y.tlen Y.hT
  have hbs := Y.base
  have hl : ops.length = ops'.length + 1 + args.length := by rw [Y.ho]; simp; omega
  have Yg := Y.toVs.glob (fu := m.vs.fuel - 1) (ou := m.vs.out) Y.R.ts (fun _ _ h => h)
  obtain ⟨cfg, s', w', y1, y2, y3⟩ := thrown Y.kok Yg (t1 := { t with stack := t.stack, frames := c.fs ++ [{ c.f with pc := ((F.pc + 1 : Nat) : Int) }] }) (f1 := { c.f with pc := ((F.pc + 1 : Nat) : Int) }) rfl ⟨rfl, rfl, rfl⟩ (fun _ _ => rfl) (fun _ _ => rfl) ⟨rfl, rfl⟩ q4 ⟨q1.trans Y.kg, q2.trans Y.kp, q3⟩ q5 Y.hk.len (X := W ++ (hidV low F.B F.L ++ ops')) (List.prefix_append _ _) (by simp only [List.length_append]; omega) (by omega)
  have es : ({ s with fuel := m.vs.fuel - 1, out := m.vs.out, ts := s.ts } : RnM) = { s with fuel := s.fuel - 1 } := by rw [← Y.R.ou, ← Y.R.fu]
  rw [es] at y1
  exact ⟨1, s', cfg, w', Y.toVw.apply Y.hT hd Y.hj Y.ho rfl Y.hf (hm.trans y1), .one (by rw [gstep_thr hv]; exact y2), y3, .inl (Nat.le_refl _)⟩
theorem call_none (Y : Cl22 K s m S cn ρ fi c t l F Tk W low ops n e T no w ops' args f) (h5 : f.t ≠ 5) (h6 : f.t ≠ 6) : Prog K F.w s (.run S c.th cn m) := by
  refine Y.thr (v := strV s_call) ?_ ?_
  · rw [if_neg h5, if_pos h6]; rfl
  · unfold callF
    rw [if_neg h5, if_pos h6]
theorem call_error (Y : Cl22 K s m S cn ρ fi c t l F Tk W low ops n e T no w ops' args f) (h6 : f.t = 6) (hn : f.n = 5) : Prog K F.w s (.run S c.th cn m) := by
  refine Y.thr (v := args.getD 0 V.nil) ?_ ?_
  · rw [if_neg (by omega), if_neg (by omega), if_pos (by omega), hn]
    unfold rbuilt
    rw [if_neg (by decide), if_neg (by decide), if_neg (by decide), if_neg (by decide), if_pos rfl]
  · unfold callF
    rw [if_neg (by omega), if_neg (by omega), hn]
    unfold callB bErrorM
    rw [if_neg (by decide), if_neg (by decide), if_neg (by decide), if_neg (by decide), if_neg (by decide), if_neg (by decide), if_neg (by decide), if_pos rfl]
    rfl
theorem next_m {a k : V} {X : VM} {r : V × V × Int} (h4 : a.t = 4) (hw : IntKind.i64.wrap a.n = a.n) (hj : 0 ≤ a.n ∧ a.n < X.vs.tabs.length ∧ X.vs.tabs.length ≤ 1000 ∧ 0 ≤ k.n) (hr : nextM X.vs.tabs a.n k = some r) : bNextM a k X = if r.2.2 ≠ 0 then some (.thr (strV s_next) X) else some (.ok (r.1, r.2.1) X) := by
  unfold bNextM tabOfM
  rw [if_neg (fun q => q h4)]
  show (if _ then _ else none) = _
  rw [hw, if_pos hj, hr, bind1_some]
theorem call_next (Y : Cl22 K s m S cn ρ fi c t l F Tk W low ops n e T no w ops' args f) (h6 : f.t = 6) (hn : f.n = 7) : Prog K F.w s (.run S c.th cn m) := by
  have va := Y.arg 0
  have vb := Y.arg 1
  by_cases h4 : (args.getD 0 V.nil).t ≠ 4
  · refine Y.thr (v := strV s_next) ?_ ?_
    · rw [if_neg (by omega), if_neg (by omega), if_pos (by omega), hn]
      unfold rbuilt rnext
      rw [if_neg (by decide), if_neg (by decide), if_neg (by decide), if_neg (by decide), if_neg (by decide), if_neg (by decide), if_pos rfl, if_pos h4]
      rfl
    · unfold callF
      rw [if_neg (by omega), if_neg (by omega), hn]
      unfold callB bNextM tabOfM
      rw [if_neg (by decide), if_neg (by decide), if_neg (by decide), if_neg (by decide), if_neg (by decide), if_neg (by decide), if_neg (by decide), if_neg (by decide), if_pos rfl, if_pos h4]
      rfl
  · have h4' : (args.getD 0 V.nil).t = 4 := by omega
    have htn := Y.N.run.mi.tn
    obtain ⟨t1, t2, _⟩ := Y.tab va h4' (T ++ Tk) (W ++ (hidV low F.B F.L ++ ops'))
    have t3 : tbOk (Go.Sm.ms { s with fuel := s.fuel - 1 } (T ++ Tk) (W ++ (hidV low F.B F.L ++ ops'))) (args.getD 0 V.nil) := (Y.tab va h4' (T ++ Tk) (W ++ (hidV low F.B F.L ++ ops'))).2.2
    obtain ⟨r, n1, n2, n3⟩ := nextM_ok Y.N.run.mi.tb t2 vb
    have nW : nextW s.ts (args.getD 0 V.nil).n.toNat (args.getD 1 V.nil) = r := next_all Y.R.ts (fun t ht e he => ((Y.N.run.mi.tb t ht).ord e he).2) (j := (args.getD 0 V.nil).n.toNat) (by omega) vb (by rw [Int.toNat_of_nonneg t2.1]; exact n1)
    have hS : rbuilt 7 (args.getD 0 V.nil) (args.getD 1 V.nil) (Go.Sm.ms { s with fuel := s.fuel - 1 } (T ++ Tk) (W ++ (hidV low F.B F.L ++ ops'))) = if r.2.2 ≠ 0 then rraise [110, 101, 120, 116] (Go.Sm.ms { s with fuel := s.fuel - 1 } (T ++ Tk) (W ++ (hidV low F.B F.L ++ ops'))) else rfin2 r.1 r.2.1 (Go.Sm.ms { s with fuel := s.fuel - 1 } (T ++ Tk) (W ++ (hidV low F.B F.L ++ ops'))) := by
      unfold rbuilt rnext
      rw [if_neg (by decide), if_neg (by decide), if_neg (by decide), if_neg (by decide), if_neg (by decide), if_neg (by decide), if_pos rfl, if_neg h4, if_neg (fun q => q ⟨t3, Y.numr vb⟩)]
      rw [show (Go.Sm.ms { s with fuel := s.fuel - 1 } (T ++ Tk) (W ++ (hidV low F.B F.L ++ ops'))).ts = s.ts from rfl, nW]
    have hM : callB c.th (low ++ ops').length 7 (args.getD 0 V.nil) (args.getD 1 V.nil) (upd c { m with vs := { m.vs with fuel := m.vs.fuel - 1 } } t t.stack (F.pc + 1)) = bindO (if r.2.2 ≠ 0 then some (.thr (strV s_next) (upd c { m with vs := { m.vs with fuel := m.vs.fuel - 1 } } t t.stack (F.pc + 1))) else some (.ok (r.1, r.2.1) (upd c { m with vs := { m.vs with fuel := m.vs.fuel - 1 } } t t.stack (F.pc + 1)))) (finM c.th (low ++ ops').length) := by
      unfold callB
      rw [if_neg (by decide), if_neg (by decide), if_neg (by decide), if_neg (by decide), if_neg (by decide), if_neg (by decide), if_neg (by decide), if_neg (by decide), if_pos rfl]
      rw [next_m (X := upd c { m with vs := { m.vs with fuel := m.vs.fuel - 1 } } t t.stack (F.pc + 1)) h4' t1 ⟨t2.1, t2.2, by show m.vs.tabs.length ≤ 1000; omega, vb.nn⟩ n1]
    by_cases hz : r.2.2 ≠ 0
    · refine Y.thr (v := strV s_next) ?_ ?_
      · rw [if_neg (by omega), if_neg (by omega), if_pos (by omega), hn, hS, if_pos hz]
        rfl
      · unfold callF
        rw [if_neg (by omega), if_neg (by omega), hn, hM, if_pos hz]
        rfl
    · refine Y.two h6 (by omega) (ou := m.vs.out) (r1 := r.1) (r2 := r.2.1) ?_ ?_
      · rw [hn, Y.same, hS, if_neg hz]
      · rw [hn, hM, if_neg hz]
        rfl
end
end Go.Sm
