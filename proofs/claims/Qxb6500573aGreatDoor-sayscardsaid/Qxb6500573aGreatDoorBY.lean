/- Plain: sentences: what is asked of each. -/
import Derived.Test.Qxb6500573aGreatDoorBX
import Derived.Test.Qxb6500573aGreatDoorBJ
set_option linter.unusedSimpArgs false
set_option linter.unusedVariables false
set_option linter.unusedSectionVars false
namespace Go.Wl
open Go Go.Sl Go.Proofs
set_option linter.unusedVariables false
def Two (s : List UInt8 → Say) (m ms : Int) (t : List UInt8) (c : CSt) (v : VM) : Prop := ∃ c1 m1 c2 m2, runM L0 (s t).src (s t).fuel c v = some (⟨0, 0, m, (s t).out, noneT⟩, c1, m1) ∧ runM L0 (s t).src ((s t).fuel - 1) c1 m1 = some (⟨9, 0, ms, (s t).short, [45]⟩, c2, m2) ∧ JJ c2 m2 ∧ (-1000000 ≤ (s t).fuel ∧ (s t).fuel ≤ 1000000)
theorem Two.use {s : List UInt8 → Say} {m ms : Int} {t : List UInt8} {c : CSt} {v : VM} (h : Two s m ms t c v) : ∃ c1 m1 c2 m2, runM L0 (s t).src (s t).fuel c v = some (⟨0, 0, m, (s t).out, noneT⟩, c1, m1) ∧ runM L0 (s t).src ((s t).fuel - 1) c1 m1 = some (⟨9, 0, ms, (s t).short, [45]⟩, c2, m2) ∧ JJ c2 m2 ∧ (-1000000 ≤ (s t).fuel ∧ (s t).fuel ≤ 1000000) := h
theorem two_mk {src : List UInt8} {fuel : Int} {a1 a2 : Ans} (h1 : ∀ (c : CSt) (m : VM), JJ c m → ∃ c1 m1, runM L0 src fuel c m = some (a1, c1, m1) ∧ JJ c1 m1) (h2 : ∀ (c : CSt) (m : VM), JJ c m → ∃ c1 m1, runM L0 src (fuel - 1) c m = some (a2, c1, m1) ∧ JJ c1 m1) (c : CSt) (m : VM) (hJ : JJ c m) {s : List UInt8 → Say} {mm ms : Int} {t : List UInt8} (e1 : (s t).src = src := by rfl) (e2 : (s t).fuel = fuel := by rfl) (e3 : a1 = ⟨0, 0, mm, (s t).out, noneT⟩ := by rfl) (e4 : a2 = ⟨9, 0, ms, (s t).short, [45]⟩ := by rfl) (e5 : -1000000 ≤ fuel ∧ fuel ≤ 1000000 := by decide) : Two s mm ms t c m := by
  obtain ⟨c1, m1, r1, j1⟩ := h1 c m hJ
  obtain ⟨c2, m2, r2, j2⟩ := h2 c1 m1 j1
  refine ⟨c1, m1, c2, m2, ?_, ?_, j2, ?_⟩
  · rw [e1, e2, r1, e3]
  · rw [e1, e2, r2, e4]
  · rw [e2]; exact e5
theorem allOb_nil : allOb [] := fun o h => by cases h
theorem allOb_cons {o : Ob} {l : List Ob} (h : o.ok) (hl : allOb l) : allOb (o :: l) := fun p hp => (List.mem_cons.1 hp).elim (fun e => by rw [e]; exact h) (hl p)
theorem txt_num {x : Nat} {t : List UInt8} (hx : x < 18446744073709551616) (hf : formatM x = some t) : (Ob.txt ⟨2, (x : Nat), []⟩ t).ok := by
  show textM ⟨2, (x : Nat), []⟩ = some t
  unfold textM
  rw [if_neg (show ¬ ((2 : Int) = 0) by decide), if_neg (show ¬ ((2 : Int) = 1) by decide), if_pos (show (2 : Int) = 2 from rfl)]
  have : numR ⟨2, (x : Nat), []⟩ = true := decide_eq_true (by dsimp only; omega)
  rw [if_pos this]
  exact hf
theorem txt_str (s : List UInt8) : (Ob.txt ⟨3, 0, s⟩ s).ok := rfl
theorem neg_lt {x : Nat} (hx : x < 9218868437227405312) : negM x < 18446744073709551616 := by
  obtain ⟨f1, _⟩ := negF hx
  obtain ⟨_, _, n3⟩ := ford_neg_max hx
  unfold negM bitsM
  rw [f1, if_neg (by rw [n3]; decide)]
  omega
end Go.Wl
