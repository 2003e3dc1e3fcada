/- Plain: the two lexers: tokens and streams. -/
import Derived.Test.Qxb6500573aGreatDoorZB
import Derived.Test.Qxb6500573aGreatDoorPF
namespace Go.Zm
open Go Go.Sl Go.Wl Go.Nm Go.Proofs
set_option linter.unusedVariables false
/-- The token from pos on, and the place behind it. -/
def lexAt (src : List UInt8) (pos : Nat) : Nat × TS := match src[skipZ src (src.length + 1) pos]? with
  | none => (skipZ src (src.length + 1) pos, ⟨0, [], 0, src.length, 0⟩)
  | some c => lexZ src (skipZ src (src.length + 1) pos) c
theorem nextZ_eq {src : List UInt8} {m : PZ} (h : m.pos ≤ src.length) : nextZ src m = some { m with pos := (lexAt src m.pos).1, tok := (lexAt src m.pos).2 } := by
  unfold nextZ lexAt
  rw [if_pos h]
  cases src[skipZ src (src.length + 1) m.pos]? <;> rfl
def kText (k : Int) : List UInt8 := if k < 24 then kwL.getD (k - 5).toNat [] else sgL.getD (k - 24).toNat []
/-- The two tokens are the same. -/
structure TokR (t : Tok) (z : TS) : Prop where
  at_ : z.at_ = t.at_
  k0 : t.kind = 0 → z.k = 0
  k1 : t.kind = 1 → z.k = 5 ∧ z.e = t.err
  k2 : t.kind = 2 → z.k = 1 ∧ z.s = t.text
  k3 : t.kind = 3 → z.k = 2 ∧ (z.n : Int) = t.bits
  k4 : t.kind = 4 → z.k = 3 ∧ z.s = t.text
  k5 : 5 ≤ t.kind → z.k = 4 ∧ z.s = kText t.kind
  rg : 0 ≤ t.kind ∧ t.kind ≤ 46
/-- What is still to be read. -/
def Strm (src : List UInt8) : Nat → List Tok → Prop
  | _, [] => True
  | pos, t :: l => pos ≤ src.length ∧ TokR t (lexAt src pos).2 ∧ (lexAt src pos).1 ≤ src.length ∧ Strm src (lexAt src pos).1 l
theorem kText_inj : ∀ i j : Fin 42, kText ((i.val : Int) + 5) = kText ((j.val : Int) + 5) → i = j := by decide +kernel
theorem kText_eq {a b : Int} (ha : 5 ≤ a ∧ a ≤ 46) (hb : 5 ≤ b ∧ b ≤ 46) (h : kText a = kText b) : a = b := by
  have := kText_inj ⟨(a - 5).toNat, by omega⟩ ⟨(b - 5).toNat, by omega⟩ (by
    dsimp only
    rw [show (((a - 5).toNat : Nat) : Int) + 5 = a by omega, show (((b - 5).toNat : Nat) : Int) + 5 = b by omega]
    exact h)
  have := congrArg Fin.val this
  dsimp only at this
  omega
/-- What stands at hand, asked by its text. -/
theorem TokR.is {t : Tok} {z : TS} (h : TokR t z) {K : Int} (hK : 5 ≤ K ∧ K ≤ 46) : (z.k = 4 ∧ z.s = kText K) ↔ t.kind = K := by
  have hr := h.rg
  constructor
  · rintro ⟨h1, h2⟩
    by_cases c : 5 ≤ t.kind
    · have := h.k5 c
      exact kText_eq ⟨c, hr.2⟩ hK (this.2.symm.trans h2)
    · exfalso
      have : t.kind = 0 ∨ t.kind = 1 ∨ t.kind = 2 ∨ t.kind = 3 ∨ t.kind = 4 := by omega
      rcases this with e | e | e | e | e
      · have := h.k0 e; omega
      · have := h.k1 e; omega
      · have := h.k2 e; omega
      · have := h.k3 e; omega
      · have := h.k4 e; omega
  · rintro rfl
    exact h.k5 hK.1
theorem isZ_t {t : Tok} {m : PZ} (h : TokR t m.tok) {K : Int} (hK : 5 ≤ K ∧ K ≤ 46) (hk : t.kind = K) : isZ (kText K) m = true := decide_eq_true ((h.is hK).2 hk)
theorem isZ_f {t : Tok} {m : PZ} (h : TokR t m.tok) {K : Int} (hK : 5 ≤ K ∧ K ≤ 46) (hk : t.kind ≠ K) : isZ (kText K) m = false := decide_eq_false fun q => hk ((h.is hK).1 q)
theorem TokR.k {t : Tok} {z : TS} (h : TokR t z) : (z.k = 0 ↔ t.kind = 0) ∧ (z.k = 1 ↔ t.kind = 2) ∧ (z.k = 2 ↔ t.kind = 3) ∧ (z.k = 3 ↔ t.kind = 4) ∧ (z.k = 5 ↔ t.kind = 1) ∧ (z.k = 4 ↔ 5 ≤ t.kind) := by
  have hr := h.rg
  by_cases c : 5 ≤ t.kind
  · have := (h.k5 c).1
    omega
  · have : t.kind = 0 ∨ t.kind = 1 ∨ t.kind = 2 ∨ t.kind = 3 ∨ t.kind = 4 := by omega
    rcases this with e | e | e | e | e
    · have := h.k0 e; omega
    · have := (h.k1 e).1; omega
    · have := (h.k2 e).1; omega
    · have := (h.k3 e).1; omega
    · have := (h.k4 e).1; omega
theorem endZ_eq {s : PS} {m : PZ} (h : TokR s.cur m.tok) : endZ m = endsP s := by
  unfold endZ endsP
  refine decide_eq_decide.2 ?_
  have h9 := h.is (K := 9) (by omega)
  have h7 := h.is (K := 7) (by omega)
  have h8 := h.is (K := 8) (by omega)
  have h0 := h.k.1
  rw [← h9, ← h7, ← h8, ← h0]
  show _ ∨ (_ ∧ (_ = kText 9 ∨ _ = kText 7 ∨ _ = kText 8)) ↔ _
  constructor
  · rintro (h | ⟨h, h' | h' | h'⟩)
    · exact .inl h
    · exact .inr (.inl ⟨h, h'⟩)
    · exact .inr (.inr (.inl ⟨h, h'⟩))
    · exact .inr (.inr (.inr ⟨h, h'⟩))
  · rintro (h | ⟨h, h'⟩ | ⟨h, h'⟩ | ⟨h, h'⟩)
    · exact .inl h
    · exact .inr ⟨h, .inl h'⟩
    · exact .inr ⟨h, .inr (.inl h')⟩
    · exact .inr ⟨h, .inr (.inr h')⟩
/-! The place where the next token begins. -/
theorem skip_step {src : List UInt8} : ∀ (f g i : Nat), src.length - i < f → src.length - i < g → skipZ src f i = skipZ src g i
  | 0, _, _, h, _ => by omega
  | _, 0, _, _, h => by omega
  | f + 1, g + 1, i, hf, hg => by
    unfold skipZ
    by_cases hi : i < src.length
    · rw [List.getElem?_eq_getElem hi]
      dsimp only
      cases blankZ src[i] with
      | true => exact skip_step f g (i + 1) (by omega) (by omega)
      | false =>
        dsimp only [cond_false]
        by_cases h1 : i + 1 < src.length
        · rw [List.getElem?_eq_getElem h1]
          dsimp only
          split
          · rename_i hq
            have hr : i + 1 ≤ runF nlP src i := by
              have : nlP src[i] = true := decide_eq_true (by omega)
              rw [runF_step hi this]
              exact (runF_le (by omega)).1
            exact skip_step f g _ (by omega) (by omega)
          · rfl
        · rw [List.getElem?_eq_none (l := src) (i := i + 1) (by omega)]
    · rw [List.getElem?_eq_none (l := src) (i := i) (by omega)]
theorem skip_ge {src : List UInt8} : ∀ (f i : Nat), i ≤ src.length → i ≤ skipZ src f i ∧ skipZ src f i ≤ src.length
  | 0, i, h => ⟨Nat.le_refl _, h⟩
  | f + 1, i, h => by
    unfold skipZ
    by_cases hi : i < src.length
    · rw [List.getElem?_eq_getElem hi]
      dsimp only
      cases blankZ src[i] with
      | true => have := skip_ge (src := src) f (i + 1) (by omega); dsimp only [cond_true]; exact ⟨by omega, this.2⟩
      | false =>
        dsimp only [cond_false]
        by_cases h1 : i + 1 < src.length
        · rw [List.getElem?_eq_getElem h1]
          dsimp only
          split
          · have hr := runF_le (p := nlP) (src := src) (i := i) h
            have := skip_ge f _ hr.2
            exact ⟨by omega, this.2⟩
          · exact ⟨Nat.le_refl _, h⟩
        · rw [List.getElem?_eq_none (l := src) (i := i + 1) (by omega)]; exact ⟨Nat.le_refl _, h⟩
    · rw [List.getElem?_eq_none (l := src) (i := i) (by omega)]; exact ⟨Nat.le_refl _, h⟩
end Go.Zm
