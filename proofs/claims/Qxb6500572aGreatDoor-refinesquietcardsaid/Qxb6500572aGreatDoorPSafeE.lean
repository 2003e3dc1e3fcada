/- What an instruction leaves alone. -/
import Derived.Test.Qxb6500572aGreatDoorPSafeD
import Derived.Test.Qxb6500572aGreatDoorWLawE
namespace Go.Sl
open Go Go.Wl Go.Proofs
set_option linter.unusedVariables false
/-- How the frames may change. -/
def FrRel (i j : Inst) : Prop :=
  (∃ f', j.fr = (i.setTop f').fr ∧ f'.f = i.top.f) ∨ j.fr = i.fr ∨ j.fr = i.fr.take (i.fr.length - 1) ∨ (i.fr.length < 4 ∧ ∃ f' g, j.fr = (i.setTop f').fr ++ [g] ∧ f'.f = i.top.f)
structure Same (m m' : VM) : Prop where
  P : m'.P = m.P
  used : m'.i.used = m.i.used
  high : m'.i.high = m.i.high
  fr : FrRel m.i m'.i
theorem exec_same (m : VM) (c : Flat) : Same m (m.exec c).1 := by
  by_cases h0 : c.op = 0
  · rw [VM.exec, if_pos h0]
    exact ⟨rfl, rfl, rfl, .inr (.inl rfl)⟩
  by_cases h1 : c.op = 3
  · rw [VM.exec, if_neg h0, if_pos h1]
    unfold VM.x3; split <;> exact ⟨rfl, rfl, rfl, .inl ⟨_, rfl, rfl⟩⟩
  by_cases h2 : c.op = 4
  · rw [VM.exec, if_neg h0, if_neg h1, if_pos h2]
    exact ⟨rfl, rfl, rfl, .inl ⟨_, rfl, rfl⟩⟩
  by_cases h3 : c.op = 5 ∨ c.op = 9
  · rw [VM.exec, if_neg h0, if_neg h1, if_neg h2, if_pos h3]
    exact ⟨rfl, rfl, rfl, .inr (.inr (.inl rfl))⟩
  by_cases h4 : c.op = 6
  · rw [VM.exec, if_neg h0, if_neg h1, if_neg h2, if_neg h3, if_pos h4]
    exact ⟨rfl, rfl, rfl, .inl ⟨_, rfl, rfl⟩⟩
  by_cases h5 : c.op = 7
  · rw [VM.exec, if_neg h0, if_neg h1, if_neg h2, if_neg h3, if_neg h4, if_pos h5]
    unfold VM.x7; split <;> exact ⟨rfl, rfl, rfl, .inl ⟨_, rfl, rfl⟩⟩
  by_cases h6 : c.op = 8
  · rw [VM.exec, if_neg h0, if_neg h1, if_neg h2, if_neg h3, if_neg h4, if_neg h5, if_pos h6]
    exact ⟨rfl, rfl, rfl, .inl ⟨_, rfl, rfl⟩⟩
  by_cases h7 : c.op = 10
  · rw [VM.exec, if_neg h0, if_neg h1, if_neg h2, if_neg h3, if_neg h4, if_neg h5, if_neg h6, if_pos h7]
    unfold VM.x10; split
    · split
      · rename_i hlt; exact ⟨rfl, rfl, rfl, .inr (.inr (.inr ⟨hlt, _, _, rfl, rfl⟩))⟩
      · exact ⟨rfl, rfl, rfl, .inr (.inl rfl)⟩
    · split
      · exact ⟨rfl, rfl, rfl, .inl ⟨_, rfl, rfl⟩⟩
      · exact ⟨rfl, rfl, rfl, .inr (.inl rfl)⟩
  by_cases h8 : c.op = 11
  · rw [VM.exec, if_neg h0, if_neg h1, if_neg h2, if_neg h3, if_neg h4, if_neg h5, if_neg h6, if_neg h7, if_pos h8]
    exact ⟨rfl, rfl, rfl, .inl ⟨_, rfl, rfl⟩⟩
  by_cases h9 : c.op = 12
  · rw [VM.exec, if_neg h0, if_neg h1, if_neg h2, if_neg h3, if_neg h4, if_neg h5, if_neg h6, if_neg h7, if_neg h8, if_pos h9]
    unfold VM.x12; split <;> exact ⟨rfl, rfl, rfl, .inl ⟨_, rfl, rfl⟩⟩
  by_cases h10 : c.op = 13
  · rw [VM.exec, if_neg h0, if_neg h1, if_neg h2, if_neg h3, if_neg h4, if_neg h5, if_neg h6, if_neg h7, if_neg h8, if_neg h9, if_pos h10]
    exact ⟨rfl, rfl, rfl, .inl ⟨_, rfl, rfl⟩⟩
  by_cases h11 : c.op = 14
  · rw [VM.exec, if_neg h0, if_neg h1, if_neg h2, if_neg h3, if_neg h4, if_neg h5, if_neg h6, if_neg h7, if_neg h8, if_neg h9, if_neg h10, if_pos h11]
    exact ⟨rfl, rfl, rfl, .inl ⟨_, rfl, rfl⟩⟩
  by_cases h12 : c.op = 15
  · rw [VM.exec, if_neg h0, if_neg h1, if_neg h2, if_neg h3, if_neg h4, if_neg h5, if_neg h6, if_neg h7, if_neg h8, if_neg h9, if_neg h10, if_neg h11, if_pos h12]
    exact ⟨rfl, rfl, rfl, .inl ⟨_, rfl, rfl⟩⟩
  by_cases h13 : c.op = 16
  · rw [VM.exec, if_neg h0, if_neg h1, if_neg h2, if_neg h3, if_neg h4, if_neg h5, if_neg h6, if_neg h7, if_neg h8, if_neg h9, if_neg h10, if_neg h11, if_neg h12, if_pos h13]
    exact ⟨rfl, rfl, rfl, .inl ⟨_, rfl, rfl⟩⟩
  by_cases h14 : c.op = 17
  · rw [VM.exec, if_neg h0, if_neg h1, if_neg h2, if_neg h3, if_neg h4, if_neg h5, if_neg h6, if_neg h7, if_neg h8, if_neg h9, if_neg h10, if_neg h11, if_neg h12, if_neg h13, if_pos h14]
    exact ⟨rfl, rfl, rfl, .inl ⟨_, rfl, rfl⟩⟩
  by_cases h15 : c.op = 18
  · rw [VM.exec, if_neg h0, if_neg h1, if_neg h2, if_neg h3, if_neg h4, if_neg h5, if_neg h6, if_neg h7, if_neg h8, if_neg h9, if_neg h10, if_neg h11, if_neg h12, if_neg h13, if_neg h14, if_pos h15]
    exact ⟨rfl, rfl, rfl, .inl ⟨_, rfl, rfl⟩⟩
  by_cases h16 : 19 ≤ c.op ∧ c.op ≤ 24
  · rw [VM.exec, if_neg h0, if_neg h1, if_neg h2, if_neg h3, if_neg h4, if_neg h5, if_neg h6, if_neg h7, if_neg h8, if_neg h9, if_neg h10, if_neg h11, if_neg h12, if_neg h13, if_neg h14, if_neg h15, if_pos h16]
    unfold VM.x19; split
    · exact ⟨rfl, rfl, rfl, .inl ⟨_, rfl, rfl⟩⟩
    · exact ⟨rfl, rfl, rfl, .inr (.inl rfl)⟩
  by_cases h17 : 25 ≤ c.op ∧ c.op ≤ 28
  · rw [VM.exec, if_neg h0, if_neg h1, if_neg h2, if_neg h3, if_neg h4, if_neg h5, if_neg h6, if_neg h7, if_neg h8, if_neg h9, if_neg h10, if_neg h11, if_neg h12, if_neg h13, if_neg h14, if_neg h15, if_neg h16, if_pos h17]
    unfold VM.x25; split
    · exact ⟨rfl, rfl, rfl, .inl ⟨_, rfl, rfl⟩⟩
    · exact ⟨rfl, rfl, rfl, .inr (.inl rfl)⟩
  by_cases h18 : aluBin c.op = true
  · rw [VM.exec, if_neg h0, if_neg h1, if_neg h2, if_neg h3, if_neg h4, if_neg h5, if_neg h6, if_neg h7, if_neg h8, if_neg h9, if_neg h10, if_neg h11, if_neg h12, if_neg h13, if_neg h14, if_neg h15, if_neg h16, if_neg h17, if_pos h18]
    unfold VM.xb; split
    · exact ⟨rfl, rfl, rfl, .inl ⟨_, rfl, rfl⟩⟩
    · exact ⟨rfl, rfl, rfl, .inr (.inl rfl)⟩
  rw [VM.exec, if_neg h0, if_neg h1, if_neg h2, if_neg h3, if_neg h4, if_neg h5, if_neg h6, if_neg h7, if_neg h8, if_neg h9, if_neg h10, if_neg h11, if_neg h12, if_neg h13, if_neg h14, if_neg h15, if_neg h16, if_neg h17, if_neg h18]
  unfold VM.xu; split
  · exact ⟨rfl, rfl, rfl, .inl ⟨_, rfl, rfl⟩⟩
  · exact ⟨rfl, rfl, rfl, .inr (.inl rfl)⟩
/-- Memory and host: which instructions touch them. -/
theorem exec_free {m : VM} {c : Flat} (h : c.op = 4 ∨ c.op = 5) : (m.exec c).1.mem = m.mem ∧ (m.exec c).1.host = m.host := by
  rcases h with h | h
  · rw [exec_x4 h]; exact ⟨rfl, rfl⟩
  · rw [exec_x5 (.inl h)]; exact ⟨rfl, rfl⟩
theorem grow_ok {m : Mem} (h : MemOk m) (hd : 8 ∣ m.bytes.length) (n : Int) : MemOk (grow m n).1 ∧ 8 ∣ (grow m n).1.bytes.length := by
  unfold grow
  split
  · exact ⟨h, hd⟩
  · rename_i hn
    obtain ⟨q, hq⟩ := hd
    have := h.len; have := h.max
    refine ⟨⟨?_, h.max⟩, ?_⟩
    · simp only [List.length_append, List.length_replicate]
      omega
    · simp only [List.length_append, List.length_replicate]
      exact Nat.dvd_add ⟨q, hq⟩ ⟨_, rfl⟩
theorem store_len (m : Mem) (op ad off v : Int) : (mstore m op ad off v).1.bytes.length = m.bytes.length ∧ (mstore m op ad off v).1.max = m.max := by
  unfold mstore
  split
  · exact ⟨rfl, rfl⟩
  · rename_i h
    refine ⟨?_, rfl⟩
    unfold reach at h ⊢
    split at h
    · simp at h
    · rename_i h1
      split at h
      · simp at h
      · rename_i h2
        rw [if_neg h1, if_neg h2]
        unfold wr
        have hb : (bytes8 v).length = 8 := by simp [bytes8]
        have hw : wid op ≤ 8 := by
          unfold wid
          generalize (op - 19).toNat = j
          match j with
          | 0 | 1 | 2 | 3 | 4 | 5 | 6 | 7 | 8 | 9 => decide
          | j + 10 => simp
        dsimp only
        simp only [List.length_append, List.length_take, List.length_drop, hb]
        omega
end Go.Sl
