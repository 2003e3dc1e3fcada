/- Plain: the lexer answers; its tokens are in form. -/
import Derived.Test.Qxb6500573aGreatDoorFB
import Derived.Test.Qxb6500573aGreatDoorWLexB
namespace Go.Wl
open Go Go.Sl Go.Proofs
set_option linter.unusedVariables false
theorem rune_ok (l : List UInt8) (i : Nat) : 1 ≤ (runeAt l i).2 ∧ ∀ hi : i < l.length, (runeAt l i).1 < 128 → (runeAt l i).1 = l[i].toNat := by
  have hre : Utf8.runeError = 65533 := rfl
  have hget : ∀ hi : i < l.length, (ByteArray.get! ⟨⟨l⟩⟩ (i + 0)).toNat = l[i].toNat := fun hi => by
    show ((l.toArray).getD (i + 0) default).toNat = _
    rw [Nat.add_zero]
    simp [hi]
  unfold runeAt Utf8.decode
  dsimp only
  split
  · exact ⟨Nat.le_refl _, fun hi _ => hget hi⟩
  · split
    · split
      · rename_i h; exact ⟨Nat.le_add_left 1 1, fun _ q => by dsimp only at q; omega⟩
      · exact ⟨Nat.le_refl _, fun _ q => by dsimp only at q; omega⟩
    · split
      · split
        · rename_i h
          rw [Bool.and_eq_true] at h
          have h1 := of_decide_eq_true h.1
          exact ⟨Nat.le_add_left 1 2, fun _ q => by dsimp only at q; omega⟩
        · exact ⟨Nat.le_refl _, fun _ q => by dsimp only at q; omega⟩
      · split
        · split
          · rename_i h
            rw [Bool.and_eq_true] at h
            have h1 := of_decide_eq_true h.1
            exact ⟨Nat.le_add_left 1 3, fun _ q => by dsimp only at q; omega⟩
          · exact ⟨Nat.le_refl _, fun _ q => by dsimp only at q; omega⟩
        · exact ⟨Nat.le_refl _, fun _ q => by dsimp only at q; omega⟩
/-- A token amid the text. -/
structure TokOk (n : Nat) (t : Tok) : Prop where
  kd : 2 ≤ t.kind ∧ t.kind ≤ 46
  at_ : 0 ≤ t.at_ ∧ t.at_ ≤ n
  name : t.kind = 2 → t.text ≠ [] ∧ t.text.length ≤ 40
  str : t.kind = 4 → t.text.length ≤ 40
  num : t.kind = 3 → numOk t.bits
/-- The last token: the text's end, or an error. -/
structure TokEnd (n : Nat) (t : Tok) : Prop where
  kd : t.kind = 0 ∨ (t.kind = 1 ∧ (t.err = 2 ∨ t.err = 13 ∨ t.err = 14))
  at_ : 0 ≤ t.at_ ∧ t.at_ ≤ n
structure ToksOk (n : Nat) (toks : List Tok) : Prop where
  ok : ∀ (i : Nat) (t : Tok), toks[i]? = some t → i + 1 < toks.length → TokOk n t
  last : ∀ (i : Nat) (t : Tok), toks[i]? = some t → i + 1 = toks.length → TokEnd n t
  len : 1 ≤ toks.length ∧ toks.length ≤ n + 1
theorem place_lt : ∀ (l : List (List UInt8)) (s : List UInt8) (k j : Nat), placeOf l s k = some j → k ≤ j ∧ j < k + l.length
  | [], s, k, j, h => by cases h
  | w :: l, s, k, j, h => by
    unfold placeOf at h
    split at h
    · injection h with h; subst h; simp
    · have := place_lt l s (k + 1) j h
      simp
      omega
theorem keyword_ok (s : List UInt8) : keywordM s = 2 ∨ (5 ≤ keywordM s ∧ keywordM s ≤ 23) := by
  unfold keywordM
  cases h : placeOf kwL s 0 with
  | none => exact .inl rfl
  | some k =>
    have := place_lt kwL s 0 k h
    have hl : kwL.length = 19 := by decide
    right
    dsimp only
    omega
theorem sign_ok (s : List UInt8) : signM s = 1 ∨ (24 ≤ signM s ∧ signM s ≤ 46) := by
  unfold signM
  cases h : placeOf sgL s 0 with
  | none => exact .inl rfl
  | some k =>
    have := place_lt sgL s 0 k h
    have hl : sgL.length = 23 := by decide
    right
    dsimp only
    omega
theorem cutS_len (src : List UInt8) (i e : Nat) : (cutS src i e).length = min e src.length - i := by
  unfold cutS
  rw [List.length_drop, List.length_take]
/-- One token: in form, or an error. -/
theorem lexOne_ok {src : List UInt8} {i : Nat} (hi : i < src.length) {r : Nat} (hr : r < 128 → r = src[i].toNat) : ∃ x, lexOne src i (r : Nat) = some x ∧ ∀ e t, x = .tok e t → (t.kind = 1 → TokEnd src.length t) ∧ (t.kind ≠ 1 → TokOk src.length { t with err := 0 }) := by
  unfold lexOne
  by_cases h1 : (r : Int) = 32 ∨ (r : Int) = 9 ∨ (r : Int) = 10 ∨ (r : Int) = 13
  · rw [if_pos h1]; exact ⟨_, rfl, fun e t h => by cases h⟩
  rw [if_neg h1]
  by_cases h2 : (r : Int) = 45 ∧ cutS src (i + 1) (min (i + 2) src.length) = [45]
  · rw [if_pos h2]; exact ⟨_, rfl, fun e t h => by cases h⟩
  rw [if_neg h2]
  by_cases h3 : letterM (r : Nat) = true
  · rw [if_pos h3]
    refine ⟨_, rfl, fun e t h => ?_⟩
    unfold wordAt at h
    split at h
    · rename_i hl
      injection h with h4 h5
      subst h5
      dsimp only
      have hk := keyword_ok (cutS src i (runF wordM src i))
      refine ⟨fun q => by omega, fun _ => ⟨by dsimp only; omega, by dsimp only; omega, fun _ => ?_, fun q => by dsimp only at q; omega, fun q => by dsimp only at q; omega⟩⟩
      have hw : wordM src[i] = true := by
        have h3' := of_decide_eq_true h3
        have hrr := hr (by omega)
        unfold wordM
        refine decide_eq_true ?_
        rw [← hrr]
        omega
      have hst := runF_step (p := wordM) hi hw
      have hle := runF_le (p := wordM) (src := src) (i := i + 1) (by omega)
      have hlen := cutS_len src i (runF wordM src i)
      refine ⟨fun q => ?_, by dsimp only; omega⟩
      dsimp only at q
      rw [q] at hlen
      rw [hst] at hlen
      simp at hlen
      omega
    · injection h with h4 h5
      subst h5
      exact ⟨fun _ => ⟨.inr ⟨rfl, .inr (.inr rfl)⟩, by dsimp only; omega⟩, fun q => absurd rfl q⟩
  rw [if_neg h3]
  by_cases h4 : 48 ≤ (r : Int) ∧ (r : Int) ≤ 57
  · rw [if_pos h4]
    unfold numAt
    obtain ⟨f, er, p1, p2, p3⟩ := parse_all (cutS src i (numberM src i))
    rw [p1]
    refine ⟨_, rfl, fun e t h => ?_⟩
    injection h with h5 h6
    subst h6
    dsimp only
    by_cases he : er = 0
    · rw [if_pos he]
      exact ⟨fun q => by omega, fun _ => ⟨by dsimp only; omega, by dsimp only; omega, fun q => by dsimp only at q; omega, fun q => by dsimp only at q; omega, fun _ => p3 he⟩⟩
    · rw [if_neg he]
      exact ⟨fun _ => ⟨.inr ⟨rfl, .inl rfl⟩, by dsimp only; omega⟩, fun q => absurd rfl q⟩
  rw [if_neg h4]
  by_cases h5 : (r : Int) = 34
  · rw [if_pos h5]
    refine ⟨_, rfl, fun e t h => ?_⟩
    unfold strAt at h
    dsimp only at h
    split at h
    · rename_i hc
      injection h with h6 h7
      subst h7
      dsimp only
      refine ⟨fun q => by omega, fun _ => ⟨by dsimp only; omega, by dsimp only; omega, fun q => by dsimp only at q; omega, fun _ => ?_, fun q => by dsimp only at q; omega⟩⟩
      have := cutS_len src (i + 1) (runF (untilP 34) src (i + 1) + 1 - 1)
      dsimp only
      omega
    · injection h with h6 h7
      subst h7
      exact ⟨fun _ => ⟨.inr ⟨rfl, .inr (.inr rfl)⟩, by dsimp only; omega⟩, fun q => absurd rfl q⟩
  rw [if_neg h5]
  refine ⟨_, rfl, fun e t h => ?_⟩
  injection h with h6 h7
  subst h7
  dsimp only
  have hs := sign_ok (signAt src i (r : Nat)).2
  exact ⟨fun q => ⟨.inr ⟨q, .inr (.inl rfl)⟩, by dsimp only; omega⟩, fun q => ⟨by dsimp only; omega, by dsimp only; omega, fun q => by dsimp only at q; omega, fun q => by dsimp only at q; omega, fun q => by dsimp only at q; omega⟩⟩
theorem toks_end {n : Nat} {toks : List Tok} {t : Tok} (h : ∀ x, x ∈ toks → TokOk n x) (ht : TokEnd n t) (hl : toks.length ≤ n) : ToksOk n (toks ++ [t]) := by
  refine ⟨fun i x hx hi => ?_, fun i x hx hi => ?_, by simp; omega⟩
  · rw [List.length_append, List.length_singleton] at hi
    rw [List.getElem?_append_left (by omega)] at hx
    exact h x (List.mem_of_getElem? hx)
  · rw [List.length_append, List.length_singleton] at hi
    rw [List.getElem?_append_right (by omega), show i - toks.length = 0 from by omega] at hx
    injection hx with hx
    subst hx
    exact ht
/-- The lexer. -/
theorem scan_ok {src : List UInt8} (hsl : src.length ≤ 2048) : ∀ (n pos endp : Nat) (toks : List Tok), src.length - pos < n → toks.length ≤ pos → toks.length ≤ src.length → (∀ x, x ∈ toks → TokOk src.length x) → ∃ out, scanL n src pos endp toks = some out ∧ ToksOk src.length out
  | 0, pos, endp, toks, h, h2, h2', h3 => by omega
  | n + 1, pos, endp, toks, h, h2, h2', h3 => by
    unfold scanL
    rw [if_neg (by omega)]
    by_cases hp : pos < src.length
    · rw [if_pos hp]
      obtain ⟨r1, r2⟩ := rune_ok src pos
      by_cases he : pos < endp
      · rw [if_pos he]
        exact scan_ok hsl n _ _ _ (by omega) (by omega) h2' h3
      · rw [if_neg he]
        obtain ⟨x, hx, hok⟩ := lexOne_ok hp (r2 hp)
        rw [hx]
        cases x with
        | skip e => exact scan_ok hsl n _ _ _ (by omega) (by omega) h2' h3
        | tok e t =>
          dsimp only
          obtain ⟨o1, o2⟩ := hok e t rfl
          by_cases hk : t.kind = 1
          · rw [if_pos hk]
            exact ⟨_, rfl, toks_end h3 (o1 hk) h2'⟩
          · rw [if_neg hk]
            refine scan_ok hsl n _ _ _ (by omega) (by simp; omega) (by simp; omega) fun y hy => ?_
            rcases List.mem_append.1 hy with hy | hy
            · exact h3 y hy
            · rw [List.mem_singleton] at hy; subst hy; exact o2 hk
    · rw [if_neg hp]
      exact ⟨_, rfl, toks_end h3 ⟨.inl rfl, by dsimp only; omega⟩ h2'⟩
end Go.Wl
