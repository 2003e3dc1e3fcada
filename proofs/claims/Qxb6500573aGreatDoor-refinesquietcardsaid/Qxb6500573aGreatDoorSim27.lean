/- Plain: the interpreter and the machine go on together: status. -/
import Derived.Test.Qxb6500573aGreatDoorSim26
namespace Go.Sm
open Go Go.Sl Go.Wl Go.Nm Go.Proofs
set_option linter.unusedVariables false
section
variable {K : Cn} {s : RnM} {m : VM} {S : List Nat} {cn : Int} {ρ : Nat → Option Plc} {fi : Nat → List FI} {c : Cx} {t : Th} {l : List FI} {F : FI} {Tk : List TkM} {W low ops : List V} {n : Int} {e : Option Nat} {T : List TkM} {no w : Nat} {ops' args : List V} {f : V}
/-- A thread's value. -/
theorem Vw.thv (Y : Vw K s m S cn ρ fi c t l F Tk W low ops) {a : V} (va : VVm m a) (h7 : a.t = 7) : ∃ (u : Nat) (tu : Th) (q : ThM), a.n = (u : Int) ∧ m.vs.threads[u]? = some tu ∧ s.ths[u]? = some q ∧ ThOk K s.envs ρ m u tu q (fi u) := by
  have h1 := va.thr h7
  have h2 := va.nn
  have hln := Y.R.ln
  obtain ⟨tu, htu⟩ : ∃ tu, m.vs.threads[a.n.toNat]? = some tu := ⟨_, List.getElem?_eq_getElem (by omega)⟩
  obtain ⟨q, q1, q2⟩ := Y.R.th _ _ htu
  exact ⟨a.n.toNat, tu, q, by omega, htu, q1, q2⟩
theorem call_status (Y : Cl22 K s m S cn ρ fi c t l F Tk W low ops n e T no w ops' args f) (h6 : f.t = 6) (hn : f.n = 11) : Prog K F.w s (.run S c.th cn m) := by
  have va := Y.arg 0
  by_cases h7 : (args.getD 0 V.nil).t ≠ 7
  · refine Y.thr (v := strV s_co) ?_ ?_
    · rw [if_neg (by omega), if_neg (by omega), if_pos (by omega), hn]
      unfold rbuilt rstatus
      rw [if_neg (by decide), if_neg (by decide), if_neg (by decide), if_neg (by decide), if_neg (by decide), if_neg (by decide), if_neg (by decide), if_neg (by decide), if_neg (by decide), if_neg (by decide), if_pos rfl, if_pos h7]
      rfl
    · unfold callF
      rw [if_neg (by omega), if_neg (by omega), hn]
      unfold callB bStatusM
      rw [if_neg (by decide), if_neg (by decide), if_neg (by decide), if_neg (by decide), if_neg (by decide), if_neg (by decide), if_neg (by decide), if_neg (by decide), if_neg (by decide), if_neg (by decide), if_pos rfl, if_pos h7]
      rfl
  · have h7' : (args.getD 0 V.nil).t = 7 := by omega
    obtain ⟨u, tu, q, e1, e2, e3, e4⟩ := Y.toVw.thv va h7'
    have hln := Y.R.ln
    have hu := lt_of e2
    have hS : ∃ q', (Go.Sm.ms { s with fuel := s.fuel - 1 } (T ++ Tk) (W ++ (hidV low F.B F.L ++ ops'))).ths[u]? = some q' ∧ q'.st = tu.st := by
      by_cases hc : u = c.th
      · subst hc
        refine ⟨_, ms_at (s := { s with fuel := s.fuel - 1 }) Y.R.cr (by show c.th < s.ths.length; omega) _ _, ?_⟩
        show (thG s).st = tu.st
        rw [thG_at Y.R.cr e3]
        exact e4.st
      · exact ⟨q, by rw [ms_ne (s := { s with fuel := s.fuel - 1 }) Y.R.cr _ _ hc]; exact e3, e4.st⟩
    have hM : ∃ t', (upd c { m with vs := { m.vs with fuel := m.vs.fuel - 1 } } t t.stack (F.pc + 1)).vs.threads[u]? = some t' ∧ t'.st = tu.st := by
      by_cases hc : u = c.th
      · subst hc
        rw [Y.ht] at e2
        injection e2 with e2
        subst e2
        exact ⟨_, upd_at c { m with vs := { m.vs with fuel := m.vs.fuel - 1 } } Y.ht _ _, rfl⟩
      · exact ⟨tu, by rw [upd_ne _ _ _ _ _ hc]; exact e2, rfl⟩
    obtain ⟨q', s1, s2⟩ := hS
    obtain ⟨t', m1, m2⟩ := hM
    have hlS : (Go.Sm.ms { s with fuel := s.fuel - 1 } (T ++ Tk) (W ++ (hidV low F.B F.L ++ ops'))).ths.length = s.ths.length := by
      unfold Go.Sm.ms rset
      simp
    refine Y.two h6 (by omega) (ou := m.vs.out) (r1 := strV (statusName tu.st)) (r2 := V.nil) ?_ ?_
    · rw [hn, Y.same]
      unfold rbuilt rstatus
      rw [if_neg (by decide), if_neg (by decide), if_neg (by decide), if_neg (by decide), if_neg (by decide), if_neg (by decide), if_neg (by decide), if_neg (by decide), if_neg (by decide), if_neg (by decide), if_pos rfl, if_neg h7, if_pos (by rw [hlS]; omega), e1, Int.toNat_natCast, List.getD_eq_getElem?_getD, s1, Option.getD_some, s2]
      rfl
    · rw [hn]
      unfold callB bStatusM
      rw [if_neg (by decide), if_neg (by decide), if_neg (by decide), if_neg (by decide), if_neg (by decide), if_neg (by decide), if_neg (by decide), if_neg (by decide), if_neg (by decide), if_neg (by decide), if_pos rfl, if_neg h7, e1]
      rw [getI_mk (x := t') (by have := lt_of m1; omega) (by rw [Int.toNat_natCast]; exact m1), bind1_some, m2]
      rfl
end
end Go.Sm
