/- Plain: the interpreter and the machine go on together: calls of functions; pcall. -/
import Derived.Test.Qxb6500573aGreatDoorSim31
namespace Go.Sm
open Go Go.Sl Go.Wl Go.Nm Go.Proofs
set_option linter.unusedVariables false
section
variable {K : Cn} {s : RnM} {m : VM} {S : List Nat} {cn : Int} {ρ : Nat → Option Plc} {fi : Nat → List FI} {c : Cx} {t : Th} {l : List FI} {F : FI} {Tk : List TkM} {W low ops : List V} {n : Int} {e : Option Nat} {T : List TkM} {no w : Nat} {ops' args : List V} {f : V}
theorem Vw.depth (Y : Vw K s m S cn ρ fi c t l F Tk W low ops) : (thG s).depth = ((c.fs.length + 1 : Nat) : Int) := by
  have h1 := Y.q.dp
  have h2 := Y.trs.lens.2.2.1
  rw [h1, List.length_append, List.length_singleton]
  omega
theorem call_fn (Y : Cl22 K s m S cn ρ fi c t l F Tk W low ops n e T no w ops' args f) (h5 : f.t = 5) : Prog K F.w s (.run S c.th cn m) := by
  have vf : VVm m f := Y.vv (by rw [Y.ho]; simp)
  have hn := vf.clo h5
  have h0 := vf.nn
  have hcn := Y.N.run.mi.cn
  have hdp := Y.toVw.depth
  have hfl : t.frames.length = c.fs.length + 1 := by rw [Y.hfr]; simp
  have hgt : ∀ X, callF c.th (low ++ ops').length f args (upd c { m with vs := { m.vs with fuel := m.vs.fuel - 1 } } t t.stack (F.pc + 1)) = X ↔ (if 8 ≤ ((c.fs ++ [{ c.f with pc := ((F.pc + 1 : Nat) : Int) }]).length : Int) then some (.thr (strV s_depth) (upd c { m with vs := { m.vs with fuel := m.vs.fuel - 1 } } t t.stack (F.pc + 1))) else if 0 ≤ f.n ∧ f.n ≤ 1000000000 then outE (enterM c.th f.n args (low ++ ops').length false (upd c { m with vs := { m.vs with fuel := m.vs.fuel - 1 } } t t.stack (F.pc + 1))) else none) = X := fun X => by
    unfold callF getT
    rw [if_pos h5, upd_at c { m with vs := { m.vs with fuel := m.vs.fuel - 1 } } Y.ht, bind1_some]
  by_cases h8 : 8 ≤ c.fs.length + 1
  · refine Y.thr (v := strV s_depth) ?_ ((hgt _).2 ?_)
    · rw [if_pos h5, if_pos (by omega)]
      rfl
    · rw [if_pos (by rw [List.length_append, List.length_singleton]; omega)]
  · refine Y.enter (j := f.n.toNat) (A := args) (pr := false) (by omega) ?_ ((hgt _).2 ?_)
    · rw [if_pos h5, if_neg (by omega), if_pos (by omega), Int.toNat_of_nonneg h0]
      rfl
    · rw [if_neg (by rw [List.length_append, List.length_singleton]; omega), if_pos (by omega), Int.toNat_of_nonneg h0]
theorem call_pcall (Y : Cl22 K s m S cn ρ fi c t l F Tk W low ops n e T no w ops' args f) (h6 : f.t = 6) (hn : f.n = 6) : Prog K F.w s (.run S c.th cn m) := by
  have va := Y.arg 0
  have hcn := Y.N.run.mi.cn
  have hdp := Y.toVw.depth
  have hcur1 : curOk { s with fuel := s.fuel - 1 } := Y.cur
  have hS : rbuilt 6 (args.getD 0 V.nil) (args.getD 1 V.nil) (Go.Sm.ms { s with fuel := s.fuel - 1 } (T ++ Tk) (W ++ (hidV low F.B F.L ++ ops'))) = rpcall (args.getD 0 V.nil) (args.getD 1 V.nil) (Go.Sm.ms { s with fuel := s.fuel - 1 } (T ++ Tk) (W ++ (hidV low F.B F.L ++ ops'))) := by
    unfold rbuilt
    rw [if_neg (by decide), if_neg (by decide), if_neg (by decide), if_neg (by decide), if_neg (by decide), if_pos rfl]
  have hM : callB c.th (low ++ ops').length 6 (args.getD 0 V.nil) (args.getD 1 V.nil) (upd c { m with vs := { m.vs with fuel := m.vs.fuel - 1 } } t t.stack (F.pc + 1)) = (if (args.getD 0 V.nil).t = 5 then (if ((c.fs ++ [{ c.f with pc := ((F.pc + 1 : Nat) : Int) }]).length : Int) < 8 then (if 0 ≤ (args.getD 0 V.nil).n ∧ (args.getD 0 V.nil).n ≤ 1000000000 then outE (enterM c.th (args.getD 0 V.nil).n [args.getD 1 V.nil] (low ++ ops').length true (upd c { m with vs := { m.vs with fuel := m.vs.fuel - 1 } } t t.stack (F.pc + 1))) else none) else finM c.th (low ++ ops').length (v1, strV s_depth) (upd c { m with vs := { m.vs with fuel := m.vs.fuel - 1 } } t t.stack (F.pc + 1))) else finM c.th (low ++ ops').length (v1, strV s_call) (upd c { m with vs := { m.vs with fuel := m.vs.fuel - 1 } } t t.stack (F.pc + 1))) := by
    unfold callB cPcall getT
    rw [if_pos rfl, upd_at c { m with vs := { m.vs with fuel := m.vs.fuel - 1 } } Y.ht, bind1_some]
  by_cases h5 : (args.getD 0 V.nil).t = 5
  · have hcl := va.clo h5
    have h0 := va.nn
    by_cases h8 : 8 ≤ c.fs.length + 1
    · refine Y.two h6 (by omega) (ou := m.vs.out) (r1 := v1) (r2 := strV s_depth) ?_ ?_
      · rw [hn, Y.same, hS]
        unfold rpcall
        rw [if_neg (fun q => q (ms_cur hcur1 _ _)), if_neg (fun q => q h5), ms_th hcur1, if_pos (by show 8 ≤ (thG s).depth; omega)]
        rfl
      · rw [hn, hM, if_pos h5, if_neg (by rw [List.length_append, List.length_singleton]; omega)]
        rfl
    · refine Y.enter (j := (args.getD 0 V.nil).n.toNat) (A := [args.getD 1 V.nil]) (pr := true) (by omega) ?_ ?_
      · rw [if_neg (by omega), if_neg (by omega), if_pos (by omega), hn, hS]
        unfold rpcall
        rw [if_neg (fun q => q (ms_cur hcur1 _ _)), if_neg (fun q => q h5), ms_th hcur1, if_neg (by show ¬ 8 ≤ (thG s).depth; omega), if_pos (by omega), Int.toNat_of_nonneg h0]
        rfl
      · unfold callF
        rw [if_neg (by omega), if_neg (by omega), hn, hM, if_pos h5, if_pos (by rw [List.length_append, List.length_singleton]; omega), if_pos (by omega), Int.toNat_of_nonneg h0]
  · refine Y.two h6 (by omega) (ou := m.vs.out) (r1 := v1) (r2 := strV s_call) ?_ ?_
    · rw [hn, Y.same, hS]
      unfold rpcall
      rw [if_neg (fun q => q (ms_cur hcur1 _ _)), if_pos h5]
      rfl
    · rw [hn, hM, if_neg h5]
      rfl
end
end Go.Sm
