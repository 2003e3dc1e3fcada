/- Plain: the tokens that are left behind. -/
import Derived.Test.Qxb6500573aGreatDoorPA
import Derived.Test.Qxb6500573aGreatDoorCK4
namespace Go.Wl
open Go Go.Sl Go.Proofs
set_option linter.unusedVariables false
theorem lexOne_at {src : List UInt8} {i : Nat} {r : Int} {e : Nat} {t : Tok} (h : lexOne src i r = some (.tok e t)) : t.at_ = i := by
  unfold lexOne at h
  split at h
  · cases h
  split at h
  · cases h
  split at h
  · injection h with h
    unfold wordAt at h
    split at h <;> (injection h with h1 h2; subst h2; rfl)
  split at h
  · unfold numAt at h
    split at h
    · cases h
    · injection h with h; injection h with h1 h2; subst h2; rfl
  split at h
  · injection h with h
    unfold strAt at h
    dsimp only at h
    split at h <;> (injection h with h1 h2; subst h2; rfl)
  · injection h with h; injection h with h1 h2; subst h2; rfl
/-- The tokens read so far. -/
def TkI (toks : List Tok) (pos : Nat) : Prop := ∀ (i : Nat) t, toks[i]? = some t → (2 ≤ t.kind ∧ t.kind ≤ 46) ∧ (i : Int) ≤ t.at_ ∧ t.at_ < pos ∧ t.err = 0 ∧ ∀ u, 0 < i → toks[i - 1]? = some u → u.at_ < t.at_
theorem TkI.len {toks : List Tok} {pos : Nat} (h : TkI toks pos) : toks.length ≤ pos := by
  cases hn : toks.length with
  | zero => omega
  | succ n =>
    obtain ⟨_, h2, h3, _⟩ := h n _ (List.getElem?_eq_getElem (by omega))
    omega
theorem TkI.up {toks : List Tok} {pos p2 : Nat} (h : TkI toks pos) (hp : pos ≤ p2) : TkI toks p2 := fun i t ht => by
  obtain ⟨h1, h2, h3, h4⟩ := h i t ht
  exact ⟨h1, h2, by omega, h4⟩
theorem TkI.snoc {toks : List Tok} {pos : Nat} (h : TkI toks pos) {t : Tok} (hk : 2 ≤ t.kind ∧ t.kind ≤ 46) (ha : t.at_ = pos) (he : t.err = 0) : TkI (toks ++ [t]) (pos + 1) := fun i u hu => by
  have hlen := h.len
  by_cases hi : i < toks.length
  · rw [List.getElem?_append_left hi] at hu
    obtain ⟨h1, h2, h3, h4, h5⟩ := h i u hu
    refine ⟨h1, h2, by omega, h4, fun w h0 hw => h5 w h0 ?_⟩
    rw [List.getElem?_append_left (by omega)] at hw
    exact hw
  · have hil := (List.getElem?_eq_some_iff.1 hu).1
    rw [List.length_append, List.length_singleton] at hil
    have : i = toks.length := by omega
    subst this
    rw [List.getElem?_append_right (Nat.le_refl _), Nat.sub_self] at hu
    injection hu with hu
    subst hu
    refine ⟨hk, by omega, by omega, he, fun w h0 hw => ?_⟩
    rw [List.getElem?_append_left (by omega)] at hw
    have := (h _ w hw).2.2.1
    omega
abbrev TkP (toks : List Tok) : Prop := ∀ (i : Nat) t, toks[i]? = some t → (((t.kind = 0 ∨ t.kind = 1) ∧ i + 1 = toks.length) ∨ (t.kind ≠ 0 ∧ t.kind ≠ 1 ∧ i + 1 ≠ toks.length)) ∧ (0 ≤ t.kind ∧ t.kind ≤ 46) ∧ ((i : Int) ≤ t.at_ ∧ t.at_ ≤ 2048) ∧ ((t.err ≠ 0 ∧ t.kind = 1) ∨ (t.err = 0 ∧ t.kind ≠ 1)) ∧ ∀ u, 0 < i → toks[i - 1]? = some u → u.at_ < t.at_
theorem TkI.last {toks : List Tok} {pos : Nat} (h : TkI toks pos) (hp : pos ≤ 2048) {t : Tok} (hk : (t.kind = 0 ∧ t.err = 0) ∨ (t.kind = 1 ∧ t.err ≠ 0)) (ha : t.at_ = pos) : TkP (toks ++ [t]) := fun i u hu => by
  have hlen := h.len
  by_cases hi : i < toks.length
  · rw [List.getElem?_append_left hi] at hu
    obtain ⟨h1, h2, h3, h4, h5⟩ := h i u hu
    refine ⟨.inr ⟨by omega, by omega, by simp; omega⟩, by omega, ⟨h2, by omega⟩, .inr ⟨h4, by omega⟩, fun w h0 hw => h5 w h0 ?_⟩
    rw [List.getElem?_append_left (by omega)] at hw
    exact hw
  · have hil := (List.getElem?_eq_some_iff.1 hu).1
    rw [List.length_append, List.length_singleton] at hil
    have : i = toks.length := by omega
    subst this
    rw [List.getElem?_append_right (Nat.le_refl _), Nat.sub_self] at hu
    injection hu with hu
    subst hu
    refine ⟨.inl ⟨by omega, by simp⟩, by omega, by omega, by omega, fun w h0 hw => ?_⟩
    rw [List.getElem?_append_left (by omega)] at hw
    have := (h _ w hw).2.2.1
    omega
theorem scan_tk {src : List UInt8} (hs : src.length ≤ 2048) : ∀ (n pos endp : Nat) (toks out : List Tok), scanL n src pos endp toks = some out → TkI toks pos → TkI toks src.length → TkP out ∧ out.length ≤ 2049
  | 0, _, _, _, _, h, _, _ => by cases h
  | n + 1, pos, endp, toks, out, h, hI, hI2 => by
    have hl2 := hI2.len
    have hr := (rune_ok src pos).1
    unfold scanL at h
    split at h
    · cases h
    split at h
    · rename_i hp
      split at h
      · exact scan_tk hs n _ _ _ _ h (hI.up (by omega)) hI2
      · obtain ⟨x, hx, hok⟩ := lexOne_ok hp ((rune_ok src pos).2 hp)
        rw [hx] at h
        cases x with
        | skip e => exact scan_tk hs n _ _ _ _ h (hI.up (by omega)) hI2
        | tok e t =>
          obtain ⟨o1, o2⟩ := hok e t rfl
          have ha := lexOne_at hx
          dsimp only at h
          split at h
          · rename_i hk
            injection h with h
            subst h
            have := (o1 hk).kd
            exact ⟨hI.last (by omega) (.inr ⟨hk, by omega⟩) ha, by simp; omega⟩
          · rename_i hk
            have h3 := (o2 hk).kd
            have h4 := hI.snoc (t := { t with err := 0 }) h3 ha rfl
            exact scan_tk hs n _ _ _ _ h (h4.up (by omega)) (h4.up (by omega))
    · rename_i hp
      injection h with h
      subst h
      exact ⟨hI2.last hs (.inl ⟨rfl, rfl⟩) rfl, by simp; omega⟩
theorem scan_all {src : List UInt8} (hs : src.length ≤ 2048) {n : Nat} {out : List Tok} (h : scanL n src 0 0 [] = some out) : TkP out ∧ out.length ≤ 2049 := scan_tk hs n 0 0 [] out h (fun i t ht => by cases ht) (fun i t ht => by cases ht)
end Go.Wl
