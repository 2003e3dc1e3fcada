/- A call's outcome, in one form. -/
import Derived.Test.Qxb6500572aGreatDoorWLawC
namespace Go.Sl
open Go Go.Wl Go.Proofs
set_option linter.unusedVariables false
theorem valsS_len (l : List Val) : (valsS l).length ≤ 92 := by
  unfold valsS
  have := flat_le (l := l.take 4) (f := fun x : Val => [x.t] ++ numS x.v) (k := 23) (fun x _ => by have := numS_len x.v; simp; omega)
  rw [List.length_take] at this
  have h2 : min 4 l.length * 23 ≤ 4 * 23 := Nat.mul_le_mul_right _ (Nat.min_le_left _ _)
  omega
theorem askM_trace (h : Host) (imq : Int) (rs : List UInt8) (vals : List W) : (askM h imq rs vals).1.trace.length ≤ h.trace.length + 200 := by
  have e : (hostCall h imq (vals.map W.val)).1.trace.length ≤ h.trace.length + 200 := by
    have h1 := numS_len imq
    have h2 := valsS_len (vals.map W.val)
    unfold hostCall
    split
    · simp
    · split
      · simp
      · simp only [List.length_append, List.length_cons, List.length_nil]; omega
  unfold askM
  repeat' split
  all_goals first | (dsimp only; omega) | exact e
theorem exec_host (m : VM) (c : Flat) : (m.exec c).1.host = m.host ∨ ∃ imq rs vals, (m.exec c).1.host = (askM m.host imq rs vals).1 := by
  by_cases h0 : c.op = 0
  · rw [VM.exec, if_pos h0]
    exact .inl rfl
  by_cases h1 : c.op = 3
  · rw [VM.exec, if_neg h0, if_pos h1]
    unfold VM.x3; split <;> exact .inl rfl
  by_cases h2 : c.op = 4
  · rw [VM.exec, if_neg h0, if_neg h1, if_pos h2]
    exact .inl rfl
  by_cases h3 : c.op = 5 ∨ c.op = 9
  · rw [VM.exec, if_neg h0, if_neg h1, if_neg h2, if_pos h3]
    exact .inl rfl
  by_cases h4 : c.op = 6
  · rw [VM.exec, if_neg h0, if_neg h1, if_neg h2, if_neg h3, if_pos h4]
    exact .inl rfl
  by_cases h5 : c.op = 7
  · rw [VM.exec, if_neg h0, if_neg h1, if_neg h2, if_neg h3, if_neg h4, if_pos h5]
    unfold VM.x7; split <;> exact .inl rfl
  by_cases h6 : c.op = 8
  · rw [VM.exec, if_neg h0, if_neg h1, if_neg h2, if_neg h3, if_neg h4, if_neg h5, if_pos h6]
    exact .inl rfl
  by_cases h7 : c.op = 10
  · rw [VM.exec, if_neg h0, if_neg h1, if_neg h2, if_neg h3, if_neg h4, if_neg h5, if_neg h6, if_pos h7]
    unfold VM.x10
    split
    · split <;> exact .inl rfl
    · split
      · exact .inr ⟨_, _, _, rfl⟩
      · exact .inr ⟨_, _, _, rfl⟩
  by_cases h8 : c.op = 11
  · rw [VM.exec, if_neg h0, if_neg h1, if_neg h2, if_neg h3, if_neg h4, if_neg h5, if_neg h6, if_neg h7, if_pos h8]
    exact .inl rfl
  by_cases h9 : c.op = 12
  · rw [VM.exec, if_neg h0, if_neg h1, if_neg h2, if_neg h3, if_neg h4, if_neg h5, if_neg h6, if_neg h7, if_neg h8, if_pos h9]
    unfold VM.x12; split <;> exact .inl rfl
  by_cases h10 : c.op = 13
  · rw [VM.exec, if_neg h0, if_neg h1, if_neg h2, if_neg h3, if_neg h4, if_neg h5, if_neg h6, if_neg h7, if_neg h8, if_neg h9, if_pos h10]
    exact .inl rfl
  by_cases h11 : c.op = 14
  · rw [VM.exec, if_neg h0, if_neg h1, if_neg h2, if_neg h3, if_neg h4, if_neg h5, if_neg h6, if_neg h7, if_neg h8, if_neg h9, if_neg h10, if_pos h11]
    exact .inl rfl
  by_cases h12 : c.op = 15
  · rw [VM.exec, if_neg h0, if_neg h1, if_neg h2, if_neg h3, if_neg h4, if_neg h5, if_neg h6, if_neg h7, if_neg h8, if_neg h9, if_neg h10, if_neg h11, if_pos h12]
    exact .inl rfl
  by_cases h13 : c.op = 16
  · rw [VM.exec, if_neg h0, if_neg h1, if_neg h2, if_neg h3, if_neg h4, if_neg h5, if_neg h6, if_neg h7, if_neg h8, if_neg h9, if_neg h10, if_neg h11, if_neg h12, if_pos h13]
    exact .inl rfl
  by_cases h14 : c.op = 17
  · rw [VM.exec, if_neg h0, if_neg h1, if_neg h2, if_neg h3, if_neg h4, if_neg h5, if_neg h6, if_neg h7, if_neg h8, if_neg h9, if_neg h10, if_neg h11, if_neg h12, if_neg h13, if_pos h14]
    exact .inl rfl
  by_cases h15 : c.op = 18
  · rw [VM.exec, if_neg h0, if_neg h1, if_neg h2, if_neg h3, if_neg h4, if_neg h5, if_neg h6, if_neg h7, if_neg h8, if_neg h9, if_neg h10, if_neg h11, if_neg h12, if_neg h13, if_neg h14, if_pos h15]
    exact .inl rfl
  by_cases h16 : 19 ≤ c.op ∧ c.op ≤ 24
  · rw [VM.exec, if_neg h0, if_neg h1, if_neg h2, if_neg h3, if_neg h4, if_neg h5, if_neg h6, if_neg h7, if_neg h8, if_neg h9, if_neg h10, if_neg h11, if_neg h12, if_neg h13, if_neg h14, if_neg h15, if_pos h16]
    unfold VM.x19; split <;> exact .inl rfl
  by_cases h17 : 25 ≤ c.op ∧ c.op ≤ 28
  · rw [VM.exec, if_neg h0, if_neg h1, if_neg h2, if_neg h3, if_neg h4, if_neg h5, if_neg h6, if_neg h7, if_neg h8, if_neg h9, if_neg h10, if_neg h11, if_neg h12, if_neg h13, if_neg h14, if_neg h15, if_neg h16, if_pos h17]
    unfold VM.x25; split <;> exact .inl rfl
  by_cases h18 : aluBin c.op = true
  · rw [VM.exec, if_neg h0, if_neg h1, if_neg h2, if_neg h3, if_neg h4, if_neg h5, if_neg h6, if_neg h7, if_neg h8, if_neg h9, if_neg h10, if_neg h11, if_neg h12, if_neg h13, if_neg h14, if_neg h15, if_neg h16, if_neg h17, if_pos h18]
    unfold VM.xb; split <;> exact .inl rfl
  rw [VM.exec, if_neg h0, if_neg h1, if_neg h2, if_neg h3, if_neg h4, if_neg h5, if_neg h6, if_neg h7, if_neg h8, if_neg h9, if_neg h10, if_neg h11, if_neg h12, if_neg h13, if_neg h14, if_neg h15, if_neg h16, if_neg h17, if_neg h18]
  unfold VM.xu; split <;> exact .inl rfl
theorem step_trace {m m' : VM} {fuel : Int} {r : Option Int} (h : m.step fuel = (m', r)) : m'.host.trace.length ≤ m.host.trace.length + 200 ∧ m'.host.kind = m.host.kind := by
  have key : ∀ m1 : VM, m1.host = m.host → m1.exec m.at = (m', r) → m'.host.trace.length ≤ m.host.trace.length + 200 ∧ m'.host.kind = m.host.kind := by
    intro m1 h1 h2
    have e : m' = (m1.exec m.at).1 := by rw [h2]
    rcases exec_host m1 m.at with h3 | ⟨imq, rs, vals, h3⟩
    · rw [e, h3, h1]; exact ⟨by omega, rfl⟩
    · rw [e, h3, h1]; exact ⟨askM_trace _ _ _ _, askM_kind _ _ _ _⟩
  unfold VM.step at h
  split at h
  · exact key m.fetch rfl h
  · split at h
    · exact key m.fetch.pay rfl h
    · cases h; exact ⟨by show m.host.trace.length ≤ _; omega, rfl⟩
def errV (e : Int) : Value := if e = 0 then .nilIface else .iface 51 (I e)
structure CallR where
  res : List Val
  used : Int
  e : Int
  high : Int
  P : Prog
  steps : Int
  mem : Mem
  host : Host
def CallP (Good : VM → Prop) (fuel : Int) (P : Prog) (steps : Int) (mem : Mem) (host : Host) (f : Int) (args : List Val) (r : CallR) : Prop :=
  (owed P f args ≠ 0 ∧ r = ⟨[], 0, owed P f args, 0, P, steps, mem, host⟩) ∨
  (owed P f args = 0 ∧ ∃ m m', Good m ∧ m.step fuel = (m', some 0) ∧ r = ⟨m'.i.st.map W.val, m'.i.used, 0, m'.i.high, m'.P, m'.steps, m'.mem, m'.host⟩) ∨
  (owed P f args = 0 ∧ ∃ m m' e, Good m ∧ m.step fuel = (m', some e) ∧ e ≠ 0 ∧ r = ⟨[], m'.i.used, e, m'.i.high, m'.P, m'.steps, m'.mem, m'.host⟩)
end Go.Sl
