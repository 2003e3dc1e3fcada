/- Plain: the real lexer's tokens are the model's stream. -/
import Derived.Test.Qxb6500573aGreatDoorZE
namespace Go.Zm
open Go Go.Sl Go.Wl Go.Nm Go.Proofs
set_option linter.unusedVariables false
section
variable {src : List UInt8}
theorem lexAt_blank {p : Nat} (hp : p < src.length) (hb : blankZ src[p] = true) : lexAt src p = lexAt src (p + 1) := by
  unfold lexAt
  rw [skip_blank hp hb, skip_step src.length (src.length + 1) (p + 1) (by omega) (by omega)]
theorem lexAt_com {p : Nat} (h : p + 1 < src.length) (hb : blankZ src[p] = false) (h1 : (src[p].toNat : Int) = 45) (h2 : (src[p + 1].toNat : Int) = 45) : lexAt src p = lexAt src (runF nlP src p) := by
  have hr : p + 1 ≤ runF nlP src p := by
    rw [runF_step (by omega) (show nlP src[p] = true from decide_eq_true (by omega))]
    exact (runF_le (by omega)).1
  unfold lexAt
  rw [skip_com h hb h1 h2, skip_step src.length (src.length + 1) _ (by omega) (by omega)]
theorem lexAt_tok {p : Nat} (h : p < src.length) (hb : blankZ src[p] = false) (hn : ∀ h1 : p + 1 < src.length, ¬ ((src[p].toNat : Int) = 45 ∧ (src[p + 1].toNat : Int) = 45)) : lexAt src p = lexZ src p src[p] := by
  unfold lexAt
  rw [skip_no h hb hn, List.getElem?_eq_getElem h]
theorem lexAt_end {p : Nat} (h : p = src.length) : lexAt src p = (src.length, ⟨0, [], 0, src.length, 0⟩) := by
  unfold lexAt
  rw [skip_end (by omega), List.getElem?_eq_none (by omega), h]
theorem Strm.skip {p q : Nat} {l : List Tok} (h : Strm src q l) (e : lexAt src p = lexAt src q) (hp : p ≤ src.length) : Strm src p l := by
  cases l with
  | nil => trivial
  | cons t l => exact ⟨hp, by rw [e]; exact h.2.1, by rw [e]; exact h.2.2.1, by rw [e]; exact h.2.2.2⟩
/-- A place that no rune spans. -/
def Bnd (src : List UInt8) (pos e : Nat) : Prop := pos < e → (∀ h : e < src.length, src[e].toNat < 128) ∨ (∀ h : e - 1 < src.length, src[e - 1].toNat < 128)
theorem Bnd.step {pos e : Nat} (hb : Bnd src pos e) (hp : pos < src.length) (he : pos < e) (hel : e ≤ src.length) : pos + (runeAt src pos).2 ≤ e := by
  obtain ⟨h1, h2, h3⟩ := rune_hi src pos hp
  refine Decidable.byContradiction fun q => ?_
  obtain ⟨k1, k2⟩ := h3 (e - pos) (by omega) (by omega)
  rcases hb he with k | k
  · have := k (by omega)
    simp only [show pos + (e - pos) = e by omega] at k2
    omega
  · have := k (by omega)
    by_cases c : e - 1 = pos
    · simp only [c] at this
      have := (h1 this).2
      omega
    · obtain ⟨k3, k4⟩ := h3 (e - 1 - pos) (by omega) (by omega)
      simp only [show pos + (e - 1 - pos) = e - 1 by omega] at k4
      omega
theorem rune_in {pos : Nat} (hp : pos < src.length) : pos + (runeAt src pos).2 ≤ src.length := by
  obtain ⟨h1, h2, h3⟩ := rune_hi src pos hp
  refine Decidable.byContradiction fun q => ?_
  by_cases c : 1 < (runeAt src pos).2
  · obtain ⟨k1, k2⟩ := h3 (src.length - pos) (by omega) (by omega)
    omega
  · omega
theorem rune_pos (pos : Nat) : 1 ≤ (runeAt src pos).2 := (rune_ok src pos).1
theorem scan_strm : ∀ (n pos e : Nat) (acc out : List Tok), scanL n src pos e acc = some out → pos ≤ src.length → e ≤ src.length → Bnd src pos e → ∃ L, out = acc ++ L ∧ Strm src (max pos e) L
  | 0, _, _, _, _, h, _, _, _ => by cases h
  | n + 1, pos, e, acc, out, h, hpl, hel, hb => by
    unfold scanL at h
    split at h
    · cases h
    · split at h
      · rename_i hp
        have hri := rune_in hp
        have hrp := rune_pos (src := src) pos
        split at h
        · rename_i he
          have hst := hb.step hp he hel
          obtain ⟨L, h1, h2⟩ := scan_strm n _ _ _ _ h (by omega) hel (fun _ => hb he)
          refine ⟨L, h1, ?_⟩
          rw [show max pos e = max (pos + (runeAt src pos).2) e by omega]
          exact h2
        · rename_i he
          obtain ⟨r1, r2, r3⟩ := rune_hi src pos hp
          have hmx : max pos e = pos := by omega
          rw [hmx]
          have hcut : (45 : Int) = 45 → ∀ h1 : pos + 1 < src.length, cutS src (pos + 1) (min (pos + 2) src.length) = [src[pos + 1]] := fun _ h1 => by
            unfold cutS
            rw [show min (pos + 2) src.length = pos + 2 by omega, List.drop_take, List.drop_eq_getElem_cons h1, show pos + 2 - (pos + 1) = 1 by omega, List.take_succ_cons, List.take_zero]
          by_cases hbl : blankZ src[pos] = true
          · have hbl' := of_decide_eq_true hbl
            have hr := r1 (by omega)
            have hlx : lexOne src pos (runeAt src pos).1 = some (.skip (pos + 1)) := by unfold lexOne; rw [if_pos (by rw [hr.1]; exact hbl')]
            rw [hlx] at h
            dsimp only at h
            obtain ⟨L, h1, h2⟩ := scan_strm n _ _ _ _ h (by omega) (by omega) (fun q => by omega)
            refine ⟨L, h1, Strm.skip ?_ (lexAt_blank hp hbl) (by omega)⟩
            rw [show max (pos + (runeAt src pos).2) (pos + 1) = pos + 1 by omega] at h2
            exact h2
          · have hbl0 : blankZ src[pos] = false := by simpa using hbl
            have hbl' := of_decide_eq_false hbl0
            have hrb : ¬ (((runeAt src pos).1 : Int) = 32 ∨ ((runeAt src pos).1 : Int) = 9 ∨ ((runeAt src pos).1 : Int) = 10 ∨ ((runeAt src pos).1 : Int) = 13) := by
              by_cases c : src[pos].toNat < 128
              · rw [(r1 c).1]; exact hbl'
              · have := r2 (by omega); omega
            by_cases hcom : ∃ h1 : pos + 1 < src.length, (src[pos].toNat : Int) = 45 ∧ (src[pos + 1].toNat : Int) = 45
            · obtain ⟨h1, hc1, hc2⟩ := hcom
              have hr := r1 (by omega)
              have h45 : src[pos + 1] = 45 := by
                have : src[pos + 1].toNat = 45 := by omega
                exact UInt8.toNat_inj.1 this
              have hlx : lexOne src pos (runeAt src pos).1 = some (.skip (runF nlP src pos)) := by
                unfold lexOne
                rw [if_neg hrb, if_pos ⟨by rw [hr.1]; exact hc1, by rw [hcut rfl h1, h45]⟩, until_nl]
              rw [hlx] at h
              dsimp only at h
              have hrl := runF_le (p := nlP) (src := src) (i := pos) (by omega)
              have hr1 : pos + 1 ≤ runF nlP src pos := by
                rw [runF_step hp (show nlP src[pos] = true from decide_eq_true (by omega))]
                exact (runF_le (by omega)).1
              obtain ⟨L, k1, k2⟩ := scan_strm n _ _ _ _ h (by omega) hrl.2 (fun _ => .inl fun hh => by
                refine Decidable.byContradiction fun q => ?_
                have hnl : nlP src[runF nlP src pos] = true := decide_eq_true (by omega)
                have e1 := runF_step hh hnl
                have e2 : runF nlP src (runF nlP src pos) = runF nlP src pos := by
                  have aux : ∀ (k i : Nat), src.length - i ≤ k → i ≤ src.length → runF nlP src (runF nlP src i) = runF nlP src i := by
                    intro k
                    induction k with
                    | zero => intro i h1 h2; rw [runF_stop (p := nlP) (i := i) (fun q => by omega), runF_stop (p := nlP) (i := i) (fun q => by omega)]
                    | succ k ih =>
                      intro i h1 h2
                      by_cases hi : i < src.length
                      · cases hq : nlP src[i] with
                        | true => rw [runF_step hi hq]; exact ih (i + 1) (by omega) (by omega)
                        | false => rw [runF_stop (p := nlP) (i := i) (fun _ => hq), runF_stop (p := nlP) (i := i) (fun _ => hq)]
                      · rw [runF_stop (p := nlP) (i := i) (fun q => absurd q hi), runF_stop (p := nlP) (i := i) (fun q => absurd q hi)]
                  exact aux _ pos (Nat.le_refl _) (by omega)
                have e3 := (runF_le (p := nlP) (src := src) (i := runF nlP src pos + 1) (by omega)).1
                omega)
              refine ⟨L, k1, Strm.skip ?_ (lexAt_com h1 hbl0 hc1 hc2) (by omega)⟩
              rw [show max (pos + (runeAt src pos).2) (runF nlP src pos) = runF nlP src pos by omega] at k2
              exact k2
            · have hnc : ∀ h1 : pos + 1 < src.length, ¬ ((src[pos].toNat : Int) = 45 ∧ (src[pos + 1].toNat : Int) = 45) := fun h1 q => hcom ⟨h1, q⟩
              have hla := lexAt_tok hp hbl0 hnc
              have hnr : ¬ (((runeAt src pos).1 : Int) = 45 ∧ cutS src (pos + 1) (min (pos + 2) src.length) = [45]) := by
                rintro ⟨q1, q2⟩
                have hc : src[pos].toNat < 128 := Decidable.byContradiction fun q => by have := r2 (by omega); omega
                have hr := r1 hc
                by_cases h1 : pos + 1 < src.length
                · rw [hcut rfl h1] at q2
                  injection q2 with q2
                  exact hnc h1 ⟨by omega, by rw [q2]; rfl⟩
                · unfold cutS at q2
                  rw [List.drop_eq_nil_of_le (by simp; omega)] at q2
                  cases q2
              have hsame : Same src pos (lexOne src pos (runeAt src pos).1) (lexZ src pos src[pos]) := by
                unfold lexOne
                rw [if_neg hrb, if_neg hnr]
                cases hl : letterZ src[pos] with
                | true =>
                  have hl' := of_decide_eq_true hl
                  rw [if_pos (show letterM ((runeAt src pos).1 : Nat) = true from decide_eq_true (by have := (r1 (by omega)).1; omega))]
                  exact word_same hp hl
                | false =>
                  have hl' := of_decide_eq_false hl
                  rw [if_neg (show ¬ letterM ((runeAt src pos).1 : Nat) = true from fun q => by
                    have q' := of_decide_eq_true q
                    have hc : src[pos].toNat < 128 := Decidable.byContradiction fun q => by have := r2 (by omega); omega
                    have := (r1 hc).1
                    omega)]
                  cases hd : digitM src[pos] with
                  | true =>
                    have hd' := of_decide_eq_true hd
                    rw [if_pos (by have := (r1 (by omega)).1; omega)]
                    exact num_same hp hd
                  | false =>
                    have hd' := of_decide_eq_false hd
                    rw [if_neg (fun q => by
                      have hc : src[pos].toNat < 128 := Decidable.byContradiction fun q => by have := r2 (by omega); omega
                      have := (r1 hc).1
                      omega)]
                    by_cases hq : (src[pos].toNat : Int) = 34
                    · rw [if_pos (by have := (r1 (by omega)).1; omega)]
                      exact str_same hp hl hd hq
                    · rw [if_neg (fun q => by
                        have hc : src[pos].toNat < 128 := Decidable.byContradiction fun q => by have := r2 (by omega); omega
                        have := (r1 hc).1
                        omega)]
                      exact sign_same hp hl hd hq (fun c => (r1 c).1) r2
              obtain ⟨e2, t, hx, hy1, hy2, hy3⟩ := hsame
              rw [hx] at h
              dsimp only at h
              split at h
              · rename_i hk
                injection h with h
                subst h
                exact ⟨[t], rfl, by omega, by rw [hla]; exact hy2 hk, by rw [hla]; exact hy1, trivial⟩
              · rename_i hk
                obtain ⟨y1, y2, y3, y4, y5⟩ := hy3 hk
                obtain ⟨L, k1, k2⟩ := scan_strm n _ _ _ _ h (by omega) y4 (fun _ => .inr y5)
                refine ⟨{ t with err := 0 } :: L, by rw [k1]; simp, by omega, by rw [hla]; exact y1, by rw [hla]; exact hy1, ?_⟩
                rw [hla, y2]
                have hw1 : (runeAt src pos).2 = 1 ∨ pos + (runeAt src pos).2 ≤ e2 := by
                  by_cases c : src[pos].toNat < 128
                  · exact .inl (r1 c).2
                  · right
                    exact Bnd.step (fun _ => .inr y5) hp y3 y4
                rw [show max (pos + (runeAt src pos).2) e2 = e2 by omega] at k2
                exact k2
      · rename_i hp
        injection h with h
        subst h
        have hpe : pos = src.length := by omega
        refine ⟨[⟨0, src.length, [], 0, 0⟩], rfl, by omega, ?_, ?_, trivial⟩
        · rw [lexAt_end (by omega)]; exact TokR.eof _
        · rw [lexAt_end (by omega)]; exact Nat.le_refl _
theorem toks_strm {n : Nat} {toks : List Tok} (h : scanL n src 0 0 [] = some toks) : Strm src 0 toks := by
  obtain ⟨L, h1, h2⟩ := scan_strm n 0 0 [] toks h (Nat.zero_le _) (Nat.zero_le _) (fun q => absurd q (Nat.lt_irrefl _))
  rw [List.nil_append] at h1
  subst h1
  simpa using h2
end
end Go.Zm
