/- Plain: the interpreter and the machine go on together: the plain builtins. -/
import Derived.Test.Qxb6500573aGreatDoorSim24
import Derived.Test.Qxb6500573aGreatDoorNM
namespace Go.Sm
open Go Go.Sl Go.Wl Go.Nm Go.Proofs
set_option linter.unusedVariables false
theorem print_m {a : V} {l : List UInt8} (ha : textM a = some l) (X : VM) (h : X.vs.out.length ≤ 1000000 ∧ l.length ≤ 1000000) : bPrintM a X = if 200 < (X.vs.out.length : Int) + l.length + 1 then some (.trp 10 X) else some (.ok (V.nil, V.nil) { X with vs := { X.vs with out := X.vs.out ++ l ++ [10] } }) := by
  unfold bPrintM
  rw [ha, bind1_some, if_pos h]
theorem print_s {a : V} {l : List UInt8} (ha : textM a = some l) (X : RnM) (h : l.length ≤ 1000000 ∧ X.out.length ≤ 1000000) : rprint a X = if 200 < X.out.length + l.length + 1 then some (rfin 10 [45] X) else rfin2 V.nil V.nil { X with out := X.out ++ l ++ [10] } := by
  unfold rprint
  rw [ha, b1, if_neg (fun q => q h)]
section
variable {K : Cn} {s : RnM} {m : VM} {S : List Nat} {cn : Int} {ρ : Nat → Option Plc} {fi : Nat → List FI} {c : Cx} {t : Th} {l : List FI} {F : FI} {Tk : List TkM} {W low ops : List V} {n : Int} {e : Option Nat} {T : List TkM} {no w : Nat} {ops' args : List V} {f : V}
theorem Cl22.arg (Y : Cl22 K s m S cn ρ fi c t l F Tk W low ops n e T no w ops' args f) (i : Nat) : VVm m (args.getD i V.nil) := by
  rw [List.getD_eq_getElem?_getD]
  cases h : args[i]? with
  | none => exact ⟨rfl, by decide, fun q => (by cases q), fun q => (by cases q), fun q => (by cases q), fun q => (by cases q)⟩
  | some v => exact Y.vv (by rw [Y.ho]; exact List.mem_append_right _ (List.mem_of_getElem? h))
theorem Cl22.same (Y : Cl22 K s m S cn ρ fi c t l F Tk W low ops n e T no w ops' args f) : ({ s with fuel := s.fuel - 1, out := m.vs.out } : RnM) = { s with fuel := s.fuel - 1 } := by rw [← Y.R.ou]
theorem call_str (Y : Cl22 K s m S cn ρ fi c t l F Tk W low ops n e T no w ops' args f) (h6 : f.t = 6) (hn : f.n = 2) : Prog K F.w s (.run S c.th cn m) := by
  obtain ⟨a, ha, _⟩ := text_ok (Y.arg 0)
  refine Y.two h6 (by omega) (ou := m.vs.out) (r1 := strV a) (r2 := V.nil) ?_ ?_
  · rw [hn, Y.same]
    unfold rbuilt
    rw [if_neg (by decide), if_pos rfl, ha, b1]
    rfl
  · rw [hn]
    unfold callB bStrM
    rw [if_neg (by decide), if_neg (by decide), if_neg (by decide), if_neg (by decide), if_pos rfl, ha]
    rfl
theorem call_type (Y : Cl22 K s m S cn ρ fi c t l F Tk W low ops n e T no w ops' args f) (h6 : f.t = 6) (hn : f.n = 4) : Prog K F.w s (.run S c.th cn m) := by
  refine Y.two h6 (by omega) (ou := m.vs.out) (r1 := strV (typeName (args.getD 0 V.nil).t)) (r2 := V.nil) ?_ ?_
  · rw [hn, Y.same]
    unfold rbuilt
    rw [if_neg (by decide), if_neg (by decide), if_neg (by decide), if_pos rfl]
    rfl
  · rw [hn]
    unfold callB bTypeM
    rw [if_neg (by decide), if_neg (by decide), if_neg (by decide), if_neg (by decide), if_neg (by decide), if_neg (by decide), if_pos rfl]
    rfl
theorem call_num (Y : Cl22 K s m S cn ρ fi c t l F Tk W low ops n e T no w ops' args f) (h6 : f.t = 6) (hn : f.n = 3) : Prog K F.w s (.run S c.th cn m) := by
  have hv := Y.arg 0
  have key : ∀ r : V, (∀ X, rtonum (args.getD 0 V.nil) X = rfin2 r V.nil X) → (∀ X, bNumM (args.getD 0 V.nil) X = some (.ok (r, V.nil) X)) → Prog K F.w s (.run S c.th cn m) := fun r h1 h2 => by
    refine Y.two h6 (by omega) (ou := m.vs.out) (r1 := r) (r2 := V.nil) ?_ ?_
    · rw [hn, Y.same]
      unfold rbuilt
      rw [if_neg (by decide), if_neg (by decide), if_pos rfl, h1]
    · rw [hn]
      unfold callB
      rw [if_neg (by decide), if_neg (by decide), if_neg (by decide), if_neg (by decide), if_neg (by decide), if_pos rfl, h2]
      rfl
  by_cases c2 : (args.getD 0 V.nil).t = 2
  · exact key (args.getD 0 V.nil) (fun X => by unfold rtonum; rw [if_pos c2]) (fun X => by unfold bNumM; rw [if_pos c2])
  by_cases c3 : (args.getD 0 V.nil).t = 3
  · have hl : (args.getD 0 V.nil).s.length ≤ 1000000 := by
      have hw := hv.wl
      unfold well at hw
      rw [if_pos c3] at hw
      have := (of_decide_eq_true hw).2
      omega
    have hp := parseW_ok (args.getD 0 V.nil).s
    by_cases c0 : (parseW (args.getD 0 V.nil).s).2 = 0
    · refine key ⟨2, ((parseW (args.getD 0 V.nil).s).1 : Nat), []⟩ (fun X => ?_) (fun X => ?_)
      · unfold rtonum
        rw [if_neg c2, if_pos c3, if_neg (fun q => q hl), if_pos c0]
      · unfold bNumM
        rw [if_neg c2, if_pos c3, if_pos hl, hp]
        generalize parseW (args.getD 0 V.nil).s = q at c0
        obtain ⟨x, y⟩ := q
        rw [bind2_some, if_pos c0]
    · refine key V.nil (fun X => ?_) (fun X => ?_)
      · unfold rtonum
        rw [if_neg c2, if_pos c3, if_neg (fun q => q hl), if_neg c0]
      · unfold bNumM
        rw [if_neg c2, if_pos c3, if_pos hl, hp]
        generalize parseW (args.getD 0 V.nil).s = q at c0
        obtain ⟨x, y⟩ := q
        rw [bind2_some, if_neg c0]
  · exact key V.nil (fun X => by unfold rtonum; rw [if_neg c2, if_neg c3]) (fun X => by unfold bNumM; rw [if_neg c2, if_neg c3])
theorem call_print (Y : Cl22 K s m S cn ρ fi c t l F Tk W low ops n e T no w ops' args f) (h6 : f.t = 6) (hn : f.n = 1) : Prog K F.w s (.run S c.th cn m) := by
  obtain ⟨a, ha, hal⟩ := text_ok (Y.arg 0)
  have hou := Y.N.run.mi.ou
  have ho := Y.R.ou
  obtain ⟨d, hd⟩ := Y.hnd
  by_cases c2 : 200 < m.vs.out.length + a.length + 1
  · refine Y.toVw.trap (e := 10) (s1 := Go.Sm.ms { s with fuel := s.fuel - 1 } (T ++ Tk) (W ++ (hidV low F.B F.L ++ ops'))) (m1 := upd c { m with vs := { m.vs with fuel := m.vs.fuel - 1 } } t t.stack (F.pc + 1)) (Y.toVw.apply Y.hT hd Y.hj Y.ho rfl Y.hf ?_) (by show s.fuel - 1 = m.vs.fuel - 1; rw [Y.R.fu]) Y.R.ou rfl ?_ ⟨_, Y.R.ts⟩
    · rw [if_neg (by omega), if_neg (by omega), if_pos (by omega), hn]
      unfold rbuilt
      rw [if_pos rfl, print_s ha _ ⟨by omega, by show s.out.length ≤ 1000000; rw [ho]; omega⟩]
      exact if_pos (show 200 < s.out.length + a.length + 1 by rw [ho]; exact c2)
    · rw [Y.hv]
      unfold callF
      rw [if_neg (by omega), if_neg (by omega), hn]
      unfold callB
      rw [if_neg (by decide), if_neg (by decide), if_neg (by decide), if_pos rfl, print_m ha (upd c { m with vs := { m.vs with fuel := m.vs.fuel - 1 } } t t.stack (F.pc + 1)) ⟨by show m.vs.out.length ≤ 1000000; omega, by omega⟩, if_pos (by show 200 < (m.vs.out.length : Int) + a.length + 1; omega)]
      rfl
  · refine Y.two h6 (by omega) (ou := m.vs.out ++ a ++ [10]) (r1 := V.nil) (r2 := V.nil) ?_ ?_
    · rw [hn]
      unfold rbuilt
      rw [if_pos rfl, print_s ha _ ⟨by omega, by show s.out.length ≤ 1000000; rw [ho]; omega⟩]
      rw [← ho]
      exact if_neg (show ¬ 200 < s.out.length + a.length + 1 by rw [ho]; exact c2)
    · rw [hn]
      unfold callB
      rw [if_neg (by decide), if_neg (by decide), if_neg (by decide), if_pos rfl, print_m ha (upd c { m with vs := { m.vs with fuel := m.vs.fuel - 1 } } t t.stack (F.pc + 1)) ⟨by show m.vs.out.length ≤ 1000000; omega, by omega⟩, if_neg (by show ¬ 200 < (m.vs.out.length : Int) + a.length + 1; omega)]
      rfl
end
end Go.Sm
