/- Plain: the two lexers answer alike. -/
import Derived.Test.Qxb6500573aGreatDoorZC
import Derived.Test.Qxb6500573aGreatDoorWZa
import Derived.Test.Qxb6500573aGreatDoorNM
namespace Go.Zm
open Go Go.Sl Go.Wl Go.Nm Go.Proofs
set_option linter.unusedVariables false
/-! Runes. -/
theorem rune_hi (l : List UInt8) (i : Nat) (hi : i < l.length) : (l[i].toNat < 128 → (runeAt l i).1 = l[i].toNat ∧ (runeAt l i).2 = 1) ∧ (128 ≤ l[i].toNat → 128 ≤ (runeAt l i).1) ∧
    ∀ j, 0 < j → j < (runeAt l i).2 → ∃ h : i + j < l.length, 128 ≤ l[i + j].toNat := by
  have hre : Utf8.runeError = 65533 := rfl
  have hget : ∀ k (hk : i + k < l.length), (ByteArray.get! ⟨⟨l⟩⟩ (i + k)).toNat = l[i + k].toNat := fun k hk => by
    show ((l.toArray).getD (i + k) default).toNat = _
    simp [hk]
  have h0 := hget 0 hi
  simp only [Nat.add_zero] at h0
  have hcont : ∀ k, ((decide (i + k < (ByteArray.mk ⟨l⟩).size)) && ((ByteArray.get! ⟨⟨l⟩⟩ (i + k)).toNat / 64 == 2)) = true → ∃ h : i + k < l.length, 128 ≤ l[i + k].toNat := fun k h => by
    rw [Bool.and_eq_true] at h
    have h1 : i + k < l.length := of_decide_eq_true h.1
    refine ⟨h1, ?_⟩
    have h2 := eq_of_beq h.2
    rw [hget k h1] at h2
    omega
  unfold runeAt Utf8.decode
  simp only [Nat.add_zero, h0]
  by_cases c0 : l[i].toNat < 128
  · rw [if_pos c0]
    exact ⟨fun _ => ⟨rfl, rfl⟩, fun q => by omega, fun j h1 h2 => by dsimp only at h2; omega⟩
  · rw [if_neg c0]
    have one : ∀ q : Nat × Nat, q = (Utf8.runeError, 1) → (l[i].toNat < 128 → q.1 = l[i].toNat ∧ q.2 = 1) ∧ (128 ≤ l[i].toNat → 128 ≤ q.1) ∧ ∀ j, 0 < j → j < q.2 → ∃ h : i + j < l.length, 128 ≤ l[i + j].toNat := by
      intro q hq
      subst hq
      exact ⟨fun q => by omega, fun _ => by dsimp only; omega, fun j h1 h2 => by dsimp only at h2; omega⟩
    split
    · rename_i h
      rw [Bool.and_eq_true] at h
      have k1 := hcont 1 h.2
      split
      · rename_i hc
        refine ⟨fun q => by omega, fun _ => by dsimp only; omega, fun j h1 h2 => ?_⟩
        dsimp only at h2
        obtain rfl : j = 1 := by omega
        exact k1
      · exact one _ rfl
    · split
      · rename_i h
        rw [Bool.and_eq_true, Bool.and_eq_true] at h
        have k1 := hcont 1 h.1.2
        have k2 := hcont 2 h.2
        split
        · rename_i hc
          rw [Bool.and_eq_true] at hc
          have hc1 := of_decide_eq_true hc.1
          refine ⟨fun q => by omega, fun _ => by dsimp only; omega, fun j h1 h2 => ?_⟩
          dsimp only at h2
          rcases (show j = 1 ∨ j = 2 by omega) with rfl | rfl
          · exact k1
          · exact k2
        · exact one _ rfl
      · split
        · rename_i h
          rw [Bool.and_eq_true, Bool.and_eq_true, Bool.and_eq_true] at h
          have k1 := hcont 1 h.1.1.2
          have k2 := hcont 2 h.1.2
          have k3 := hcont 3 h.2
          split
          · rename_i hc
            rw [Bool.and_eq_true] at hc
            have hc1 := of_decide_eq_true hc.1
            refine ⟨fun q => by omega, fun _ => by dsimp only; omega, fun j h1 h2 => ?_⟩
            dsimp only at h2
            rcases (show j = 1 ∨ j = 2 ∨ j = 3 by omega) with rfl | rfl | rfl
            · exact k1
            · exact k2
            · exact k3
          · exact one _ rfl
        · exact one _ rfl
theorem valid_lo {c : Nat} (h : c < 128) : Utf8.valid (c : Int) = true := by
  simp only [Utf8.valid, Bool.or_eq_true, Bool.and_eq_true, decide_eq_true_eq]
  omega
theorem valid_le {r : Int} (h : Utf8.valid r = true) : r.toNat ≤ 1114111 := by
  simp only [Utf8.valid, Bool.or_eq_true, Bool.and_eq_true, decide_eq_true_eq] at h
  omega
theorem enc_u (r : Int) : encR r = (Utf8.encode r).data.toList := by delta encR; rfl
theorem enc_a {c : Nat} (h : c < 128) : Utf8.encode (c : Int) = ⟨#[UInt8.ofNat c]⟩ := by
  have e : (if Utf8.valid (c : Int) = true then ((c : Nat) : Int).toNat else Utf8.runeError) = c := by rw [if_pos (valid_lo h)]; rfl
  unfold Utf8.encode
  simp only [e]
  exact if_pos h
theorem enc_b {c : UInt8} : (ByteArray.mk #[UInt8.ofNat c.toNat]).data.toList = [c] := by simp
theorem enc_lo {c : UInt8} (h : c.toNat < 128) : encR (c.toNat : Nat) = [c] := by
  rw [enc_u, enc_a h]
  exact enc_b
theorem of8 {n : Nat} (h1 : 128 ≤ n) (h2 : n < 256) : 128 ≤ (UInt8.ofNat n).toNat := by rw [UInt8.toNat_ofNat']; omega
theorem enc_d {r : Int} {c : Nat} (e : (if Utf8.valid r = true then r.toNat else Utf8.runeError) = c) (h1 : 128 ≤ c) (h2 : c ≤ 1114111) : ∃ (b : UInt8) (l : List UInt8), (Utf8.encode r).data.toList = b :: l ∧ 128 ≤ b.toNat := by
  unfold Utf8.encode
  simp only [e]
  rw [if_neg (by omega)]
  split
  · exact ⟨_, _, rfl, of8 (by omega) (by omega)⟩
  · split
    · exact ⟨_, _, rfl, of8 (by omega) (by omega)⟩
    · exact ⟨_, _, rfl, of8 (by omega) (by omega)⟩
theorem enc_hi {r : Nat} (h : 128 ≤ r) : ∃ (b : UInt8) (l : List UInt8), encR (r : Nat) = b :: l ∧ 128 ≤ b.toNat := by
  rw [enc_u]
  by_cases hv : Utf8.valid (r : Int) = true
  · have := valid_le hv
    exact enc_d (c := ((r : Nat) : Int).toNat) (if_pos hv) (by omega) this
  · exact enc_d (c := Utf8.runeError) (if_neg hv) (by decide) (by decide)
/-! Places in lists. -/
theorem place_none : ∀ (l : List (List UInt8)) (s : List UInt8) (k : Nat), placeOf l s k = none ↔ s ∉ l
  | [], s, k => by simp [placeOf]
  | w :: l, s, k => by
    unfold placeOf
    split
    · rename_i h; subst h; simp
    · rename_i h
      rw [place_none l s (k + 1)]
      simp only [List.mem_cons, not_or]
      exact ⟨fun q => ⟨fun e => h e.symm, q⟩, fun q => q.2⟩
theorem place_some : ∀ (l : List (List UInt8)) (s : List UInt8) (k j : Nat), placeOf l s k = some j → l[j - k]? = some s ∧ k ≤ j
  | [], s, k, j, h => by cases h
  | w :: l, s, k, j, h => by
    unfold placeOf at h
    split at h
    · rename_i e; injection h with h; subst h; subst e; simp
    · have := place_some l s (k + 1) j h
      rw [show j - k = (j - (k + 1)) + 1 by omega, List.getElem?_cons_succ]
      exact ⟨this.1, by omega⟩
theorem sign_no {s : List UInt8} (h : s ∉ sgL) : signM s = 1 := by unfold signM; rw [(place_none sgL s 0).2 h]
theorem sign_yes {s : List UInt8} (h : s ∈ sgL) : 24 ≤ signM s ∧ signM s ≤ 46 ∧ kText (signM s) = s := by
  unfold signM
  cases e : placeOf sgL s 0 with
  | none => exact absurd h ((place_none sgL s 0).1 e)
  | some k =>
    have h1 := place_some sgL s 0 k e
    have h2 := place_lt sgL s 0 k e
    have h3 : sgL.length = 23 := rfl
    refine ⟨by dsimp only; omega, by dsimp only; omega, ?_⟩
    dsimp only
    unfold kText
    rw [if_neg (by omega), show ((24 : Int) + (k : Int) - 24).toNat = k by omega, List.getD_eq_getElem?_getD]
    have := h1.1
    rw [Nat.sub_zero] at this
    rw [this]
    rfl
theorem kw_same : ∀ s, s ∈ kwZL ↔ s ∈ kwL := by
  have h1 : ∀ s, s ∈ kwZL → s ∈ kwL := by decide
  have h2 : ∀ s, s ∈ kwL → s ∈ kwZL := by decide
  exact fun s => ⟨h1 s, h2 s⟩
theorem kw_no {s : List UInt8} (h : kwZ s = false) : keywordM s = 2 := by
  unfold keywordM
  rw [(place_none kwL s 0).2 (fun q => of_decide_eq_false h ((kw_same s).2 q))]
theorem kw_yes {s : List UInt8} (h : kwZ s = true) : 5 ≤ keywordM s ∧ keywordM s ≤ 23 ∧ kText (keywordM s) = s := by
  have hm : s ∈ kwL := (kw_same s).1 (of_decide_eq_true h)
  unfold keywordM
  cases e : placeOf kwL s 0 with
  | none => exact absurd hm ((place_none kwL s 0).1 e)
  | some k =>
    have h1 := place_some kwL s 0 k e
    have h2 := place_lt kwL s 0 k e
    have h3 : kwL.length = 19 := rfl
    refine ⟨by dsimp only; omega, by dsimp only; omega, ?_⟩
    dsimp only
    unfold kText
    rw [if_pos (by omega), show ((5 : Int) + (k : Int) - 5).toNat = k by omega, List.getD_eq_getElem?_getD]
    have := h1.1
    rw [Nat.sub_zero] at this
    rw [this]
    rfl
theorem one_mem : ∀ n : Fin 256, ([UInt8.ofNat n.val] ∈ sgL) ↔ n.val ∈ oneL := by decide +kernel
theorem one_same (c : UInt8) : [c] ∈ sgL ↔ c.toNat ∈ oneL := by
  have := one_mem ⟨c.toNat, c.toNat_lt⟩
  simpa using this
theorem until_nl : untilP 10 = nlP := by
  funext c
  unfold untilP nlP
  refine decide_eq_decide.2 ?_
  show _ ∧ _ ↔ _
  exact ⟨fun h => h.2, fun h => ⟨h, h⟩⟩
end Go.Zm
