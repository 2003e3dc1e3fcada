/- Plain: the interpreter and the machine go on together: a call, its first half. -/
import Derived.Test.Qxb6500573aGreatDoorSim21
namespace Go.Wl
open Go Go.Sl Go.Proofs
set_option linter.unusedVariables false
section
variable {c : Cx} {m : VM} {t : Th} {pc : Nat}
/-- A call burns fuel, goes on one place, and calls. -/
theorem Now.xcall (N : Now c m t pc) {j : Nat} (hi : InsAt c pc 26 (j : Int)) (hj : j ≤ 3) {Z args : List V} {f : V} (hs : t.stack = Z ++ [f] ++ args) (hl : args.length = j) : (m.vs.fuel = 0 ∧ vstepL c.th m = some (.trp 9 m)) ∨ (0 < m.vs.fuel ∧ vstepL c.th m = callF c.th Z.length f args (upd c { m with vs := { m.vs with fuel := m.vs.fuel - 1 } } t t.stack (pc + 1))) := by
  have hfu := N.run.mi.fu
  have hsm := N.small
  have hp := N.run.prOk.cd
  have hpc := N.hpc
  have hlen : t.stack.length = Z.length + 1 + j := by rw [hs]; simp [hl]; omega
  rw [(N.step hi).1]
  unfold stepE
  rw [if_neg (by decide), if_neg (by decide), if_neg (by decide), if_neg (by decide), if_pos rfl]
  unfold vcallM burnM
  by_cases h0 : m.vs.fuel = 0
  · rw [if_pos h0]
    exact .inl ⟨h0, rfl⟩
  · rw [if_neg h0, if_pos hfu]
    refine .inr ⟨by omega, ?_⟩
    show bind1 (getT { m with vs := { m.vs with fuel := m.vs.fuel - 1 } } c.th) _ = _
    unfold getT
    rw [show ({ m with vs := { m.vs with fuel := m.vs.fuel - 1 } } : VM).vs.threads[c.th]? = some t from N.ht, bind1_some, if_pos (by omega)]
    rw [getI_mk (l := t.stack) (x := f) (by omega) (by rw [show ((t.stack.length : Int) - (j : Int) - 1).toNat = Z.length from by omega, hs, List.append_assoc, List.getElem?_append_right (Nat.le_refl _), Nat.sub_self]; rfl), bind1_some]
    rw [next_x (m := { m with vs := { m.vs with fuel := m.vs.fuel - 1 } }) (pc := pc) N.ht N.fr hpc.1 (by omega), bind1_some]
    rw [Int.toNat_natCast, show t.stack.length - j - 1 = Z.length from by omega, show t.stack.drop (t.stack.length - j) = args from by rw [hlen, hs, show Z.length + 1 + j - j = (Z ++ [f]).length from by simp, List.drop_left]]
    rfl
end
end Go.Wl
namespace Go.Sm
open Go Go.Sl Go.Wl Go.Nm Go.Proofs
set_option linter.unusedVariables false
theorem pops {s : RnM} (h : curOk s) (T : List TkM) : ∀ (args X : List V), X.length + args.length ≤ 1000000 → popN args.length (Go.Sm.ms s T (X ++ args)) = some (args, Go.Sm.ms s T X) := by
  intro args
  generalize hn : args.length = n
  induction n generalizing args with
  | zero =>
    intro X _
    rw [List.length_eq_zero_iff.1 hn, List.append_nil]
    rfl
  | succ n ih =>
    intro X hX
    obtain ⟨a, v, rfl⟩ : ∃ a v, args = a ++ [v] := ⟨args.dropLast, args.getLast (fun q => by rw [q] at hn; cases hn), (List.dropLast_concat_getLast _).symm⟩
    rw [List.length_append, List.length_singleton] at hn
    unfold popN
    rw [← List.append_assoc, ms_pop h v (by rw [List.length_append]; omega), b2, ih a (by omega) X (by omega), b2]
end Go.Sm
