/- Three acts that may come up at once. -/
import Derived.Test.Qxb6500573aGreatDoorSlO
namespace Go.Sl
open Go
set_option linter.unusedVariables false
section
variable {P : Program} {n : Nat} {Q : Post} {D : Defs} {ρ : Env} {H : Hp} {ops : Array Oper} {Hs : Hp}
/-- Both ways, where s has come up. -/
theorem SPG_twoL {s fuel i j : Nat} {l : Array Bool} {oi oj : Oper} (hs : l.getD s false = true) (hr : (Region.ready .any ops l == [i, j]) = true) (hi : ops[i]? = some oi) (hgi : oi.guard = none) (hj : ops[j]? = some oj) (hgj : oj.guard = none)
    (h1 : SP1 P n oi Q (fun D ρ H => SPG P n ops Q Hs s fuel (l.setIfInBounds i true) D ρ H) D ρ H)
    (h2 : SP1 P n oj Q (fun D ρ H => SPG P n ops Q Hs s fuel (l.setIfInBounds j true) D ρ H) D ρ H) : SPG P n ops Q Hs s (fuel + 1) l D ρ H := fun A F a w hf ho hc hS => by
  rw [beq_iff_eq] at hr
  have key : ∀ (q : Nat) (oq : Oper), q ∈ Region.ready .any ops l → ops[q]? = some oq → oq.guard = none → SP1 P n oq Q (fun D ρ H => SPG P n ops Q Hs s fuel (l.setIfInBounds q true) D ρ H) D ρ H →
      wpOp P ops (sem n A F Q) q (fun a' w' => ((l.setIfInBounds q true).getD s false = false → Own A w' (List.flatten Hs)) ∧ wpAnyT P .any ops (sem n A F Q) s (fun w => Own A w (List.flatten Hs)) fuel (l.setIfInBounds q true) a' w') a w := by
    intro q oq hq ho' hg h
    unfold wpOp
    simp only [ho']
    rw [if_pos (by simp [Region.wanted, hg])]
    refine .inl (Oper.wp_mono (fun a w hk => ?_) (h A F a w hf ho))
    obtain ⟨ρ, H, k1, k2, k4⟩ := hk
    have hSS : (l.setIfInBounds q true).getD s false = false → Own A w (List.flatten Hs) := by
      intro h0
      exfalso
      by_cases e : q = s
      · subst e
        have hlt : q < l.size := by
          rw [hc.1]
          rcases Nat.lt_or_ge q ops.size with h' | h'
          · exact h'
          · simp [Array.getElem?_eq_none h'] at ho'
        simp [hlt] at h0
      · simp only [Array.getD_eq_getD_getElem?, Array.getElem?_setIfInBounds_ne e] at h0 hs
        rw [hs] at h0; cases h0
    exact ⟨hSS, k4 A F a w k1 k2 (hc.set hq) hSS⟩
  refine ⟨fun h0 => by rw [hr] at h0; simp at h0, fun q hq => ?_⟩
  have hq0 := hq
  rw [hr] at hq
  simp at hq
  rcases hq with rfl | rfl
  · exact key _ _ hq0 hi hgi h1
  · exact key _ _ hq0 hj hgj h2
/-- All three ways. -/
theorem SPG_three {s fuel i j k : Nat} {l : Array Bool} {oi oj ok : Oper} (hr : (Region.ready .any ops l == [i, j, k]) = true) (hi : ops[i]? = some oi) (hgi : oi.guard = none) (hj : ops[j]? = some oj) (hgj : oj.guard = none) (hk : ops[k]? = some ok) (hgk : ok.guard = none)
    (h1 : SP1 P n oi Q (fun D ρ H => (i ≠ s → ∃ rest, Part H Hs rest) ∧ SPG P n ops Q Hs s fuel (l.setIfInBounds i true) D ρ H) D ρ H)
    (h2 : SP1 P n oj Q (fun D ρ H => (j ≠ s → ∃ rest, Part H Hs rest) ∧ SPG P n ops Q Hs s fuel (l.setIfInBounds j true) D ρ H) D ρ H)
    (h3 : SP1 P n ok Q (fun D ρ H => (k ≠ s → ∃ rest, Part H Hs rest) ∧ SPG P n ops Q Hs s fuel (l.setIfInBounds k true) D ρ H) D ρ H) : SPG P n ops Q Hs s (fuel + 1) l D ρ H := fun A F a w hf ho hc hS => by
  rw [beq_iff_eq] at hr
  have key : ∀ (q : Nat) (oq : Oper), q ∈ Region.ready .any ops l → ops[q]? = some oq → oq.guard = none → SP1 P n oq Q (fun D ρ H => (q ≠ s → ∃ rest, Part H Hs rest) ∧ SPG P n ops Q Hs s fuel (l.setIfInBounds q true) D ρ H) D ρ H →
      wpOp P ops (sem n A F Q) q (fun a' w' => ((l.setIfInBounds q true).getD s false = false → Own A w' (List.flatten Hs)) ∧ wpAnyT P .any ops (sem n A F Q) s (fun w => Own A w (List.flatten Hs)) fuel (l.setIfInBounds q true) a' w') a w := by
    intro q oq hq ho' hg h
    unfold wpOp
    simp only [ho']
    rw [if_pos (by simp [Region.wanted, hg])]
    refine .inl (Oper.wp_mono (fun a w hk => ?_) (h A F a w hf ho))
    obtain ⟨ρ, H, k1, k2, k3, k4⟩ := hk
    have hSS : (l.setIfInBounds q true).getD s false = false → Own A w (List.flatten Hs) := by
      intro h0
      by_cases e : q = s
      · subst e
        have hlt : q < l.size := by
          rw [hc.1]
          rcases Nat.lt_or_ge q ops.size with h' | h'
          · exact h'
          · simp [Array.getElem?_eq_none h'] at ho'
        simp [hlt] at h0
      · obtain ⟨rest, k5⟩ := k3 e; exact (k5.drop k2).left
    exact ⟨hSS, k4 A F a w k1 k2 (hc.set hq) hSS⟩
  refine ⟨fun h0 => by rw [hr] at h0; simp at h0, fun q hq => ?_⟩
  have hq0 := hq
  rw [hr] at hq
  simp at hq
  rcases hq with rfl | rfl | rfl
  · exact key _ _ hq0 hi hgi h1
  · exact key _ _ hq0 hj hgj h2
  · exact key _ _ hq0 hk hgk h3
end
end Go.Sl
