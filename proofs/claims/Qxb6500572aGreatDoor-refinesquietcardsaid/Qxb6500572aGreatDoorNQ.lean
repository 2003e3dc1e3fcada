/- The model's run: more is no less. -/
import Derived.Test.Qxb6500572aGreatDoorNP
namespace Go.Wl
open Go Go.Sl
set_option linter.unusedVariables false
abbrev Rec := Tsk → RS → List W → Option RR
def RecLe (r r' : Rec) : Prop := ∀ t R l q, r t R l = some q → r' t R l = some q
variable {E : RE} {r r' : Rec}
theorem bind_le {α β : Type} {a a' : Option α} {f f' : α → Option β} {q : β} (ha : ∀ x, a = some x → a' = some x) (hf : ∀ x, f x = some q → f' x = some q) (h : a.bind f = some q) : a'.bind f' = some q := by
  obtain ⟨x, h1, h2⟩ := Option.bind_eq_some_iff.1 h
  rw [ha x h1]; exact hf x h2
theorem map_le {α β : Type} {a a' : Option α} {f : α → β} {q : β} (ha : ∀ x, a = some x → a' = some x) (h : a.map f = some q) : a'.map f = some q := by
  obtain ⟨x, h1, h2⟩ := Option.map_eq_some_iff.1 h
  rw [ha x h1, Option.map_some, h2]
theorem invP_le (hr : RecLe r r') {R : RS} {f d : Int} {q : Int × RS} (h : invP E r R f d = some q) : invP E r' R f d = some q := by
  unfold invP at h ⊢
  split at h
  · rename_i hc
    rw [if_pos hc]
    exact bind_le (hr _ _ _) (fun x hx => hx) h
  · cases h
theorem stepM_le (hr : RecLe r r') {R : RS} {loc : List W} {c : Ins} {d : Int} {q : RR} (h : stepM E r R loc c d = some q) : stepM E r' R loc c d = some q := by
  unfold stepM at h ⊢
  by_cases h1 : E.fuel ≤ R.used
  · rw [if_pos h1] at h ⊢; exact h
  rw [if_neg h1] at h ⊢
  by_cases h2 : c.op = 10
  · rw [if_pos h2] at h ⊢
    by_cases h3 : c.imm < E.P.nimp
    · rw [if_pos h3] at h ⊢; exact h
    rw [if_neg h3] at h ⊢
    by_cases h4 : 4 ≤ d
    · rw [if_pos h4] at h ⊢; exact h
    rw [if_neg h4] at h ⊢
    exact map_le (fun x => invP_le hr) h
  · rw [if_neg h2] at h ⊢; exact h
theorem blockM_le (hr : RecLe r r') {R : RS} {loc : List W} {src : List Ins} {i : Nat} {c : Ins} {d : Int} {q : RR} (h : blockM E r R loc src i c d = some q) : blockM E r' R loc src i c d = some q := by
  unfold blockM at h ⊢
  by_cases h1 : c.op = 3
  · rw [if_pos h1] at h ⊢
    by_cases h2 : E.fuel ≤ R.used
    · rw [if_pos h2] at h ⊢; exact h
    rw [if_neg h2] at h ⊢
    by_cases h3 : 1 ≤ R.st.length ∧ (lst R.st).w = false
    · rw [if_pos h3] at h ⊢
      by_cases h4 : (lst R.st).n = 0
      · rw [if_pos h4] at h ⊢
        by_cases h5 : (ends src i).1 < 0
        · rw [if_pos h5] at h ⊢; exact h
        · rw [if_neg h5] at h ⊢; exact hr _ _ _ _ h
      · rw [if_neg h4] at h ⊢; exact hr _ _ _ _ h
    · rw [if_neg h3] at h; cases h
  · rw [if_neg h1] at h ⊢; exact hr _ _ _ _ h
theorem taskM_le (hr : RecLe r r') {t : Tsk} {R : RS} {loc : List W} {q : RR} (h : taskM E r t R loc = some q) : taskM E r' t R loc = some q := by
  unfold taskM at h ⊢
  by_cases h1 : ¬ R.small = true
  · rw [if_pos h1] at h; cases h
  rw [if_neg h1] at h ⊢
  by_cases h2 : t.loop = true
  · rw [if_pos h2] at h ⊢
    refine bind_le (hr _ _ _) (fun x hx => ?_) h
    by_cases h3 : x.2.1 ≠ 0 ∨ x.1 < 0
    · rw [if_pos h3] at hx ⊢; exact hx
    rw [if_neg h3] at hx ⊢
    by_cases h4 : 0 < x.1
    · rw [if_pos h4] at hx ⊢; exact hx
    rw [if_neg h4] at hx ⊢
    by_cases h5 : x.2.2.1.st.length < t.h + t.keep ∨ 1000000 < x.2.2.1.st.length
    · rw [if_pos h5] at hx; cases hx
    rw [if_neg h5] at hx ⊢
    by_cases h6 : t.op = 2
    · rw [if_pos h6] at hx ⊢; exact hr _ _ _ _ hx
    · rw [if_neg h6] at hx ⊢; exact hx
  · rw [if_neg h2] at h ⊢
    cases hg : t.src[t.i]? with
    | none => rw [hg] at h; cases h
    | some c =>
      rw [hg] at h
      dsimp only at h ⊢
      by_cases h3 : c.op = 5
      · rw [if_pos h3] at h ⊢; exact h
      rw [if_neg h3] at h ⊢
      by_cases h4 : c.op = 4
      · rw [if_pos h4] at h ⊢; exact h
      rw [if_neg h4] at h ⊢
      have fin : ∀ {t' : Tsk} (x : RR), (if x.2.1 ≠ 0 ∨ x.1 ≠ -1 then some x else r t' x.2.2.1 x.2.2.2) = some q → (if x.2.1 ≠ 0 ∨ x.1 ≠ -1 then some x else r' t' x.2.2.1 x.2.2.2) = some q := fun {t'} x hx => by
        by_cases h6 : x.2.1 ≠ 0 ∨ x.1 ≠ -1
        · rw [if_pos h6] at hx ⊢; exact hx
        · rw [if_neg h6] at hx ⊢; exact hr _ _ _ _ hx
      by_cases h5 : c.op = 1 ∨ c.op = 2 ∨ c.op = 3
      · rw [if_pos h5] at h ⊢
        exact bind_le (fun x => blockM_le hr) fin h
      · rw [if_neg h5] at h ⊢
        exact bind_le (fun x => stepM_le hr) fin h
theorem runM_suc (E : RE) : ∀ n, RecLe (runM E n) (runM E (n + 1))
  | 0 => fun t R l q h => by cases h
  | n + 1 => fun t R l q h => taskM_le (runM_suc E n) h
theorem runM_le (E : RE) {n n' : Nat} (h : n ≤ n') : RecLe (runM E n) (runM E n') := by
  induction n' with
  | zero =>
    obtain rfl : n = 0 := by omega
    exact fun t R l q hq => hq
  | succ n' ih =>
    by_cases e : n = n' + 1
    · subst e; exact fun t R l q hq => hq
    · exact fun t R l q hq => runM_suc E n' t R l q (ih (by omega) t R l q hq)
/-! Reaching. -/
inductive Reach (b : Int) : VM → VM → Prop
  | refl (x : VM) : Reach b x x
  | step {x y z : VM} (h : x.step b = (y, none)) (g : Reach b y z) : Reach b x z
theorem Reach.trans {b : Int} {x y z : VM} (h : Reach b x y) (g : Reach b y z) : Reach b x z := by
  induction h with
  | refl => exact g
  | step h _ ih => exact .step h (ih g)
theorem Reach.one {b : Int} {x y : VM} (h : x.step b = (y, none)) : Reach b x y := .step h (.refl y)
/-- One run has one end. -/
theorem Reach.det {b : Int} {x y z y' z' : VM} {e e' : Int} (h : Reach b x y) (hy : y.step b = (y', some e)) (g : Reach b x z) (hz : z.step b = (z', some e')) : y' = z' ∧ e = e' := by
  induction h with
  | refl =>
    cases g with
    | refl => rw [hy] at hz; cases hz; exact ⟨rfl, rfl⟩
    | step h _ => rw [hy] at h; cases h
  | step h _ ih =>
    cases g with
    | refl => rw [hz] at h; cases h
    | step h' g' =>
      rw [h] at h'
      cases h'
      exact ih hy g'
end Go.Wl
