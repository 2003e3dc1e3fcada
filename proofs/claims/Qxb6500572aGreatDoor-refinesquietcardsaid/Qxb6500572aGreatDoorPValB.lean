/- The validator is sound: what holds while it walks. -/
import Derived.Test.Qxb6500572aGreatDoorPValA
namespace Go.Wl
open Go Go.Sl
set_option linter.unusedVariables false
abbrev Goals := Nat → Option (List UInt8)
def pend (b : Blk) : List Nat := b.wait ++ b.alt.toList
def liveTo (l : List Blk) (j : Nat) : Prop := ∀ (i : Nat) (b : Blk), i < j → l[i]? = some b → b.dead = false
def Live (C : Chk) : Prop := liveTo C.opn C.opn.length
def jop (op : Int) : Prop := op = 3 ∨ op = 4 ∨ op = 6 ∨ op = 7
def JX (G : Goals) (a : Nat) (τ : List UInt8) (c : Flat) : Prop :=
  0 ≤ c.cut ∧ 0 ≤ c.keep ∧ c.cut + c.keep ≤ τ.length ∧ G a = some (τ.take c.cut.toNat ++ τ.drop (τ.length - c.keep.toNat))
/-- As IOk, the targets by the goals. -/
structure IX (P : Prog) (u : Fun) (code : List Flat) (T : Typ) (G : Goals) (pc : Nat) (c : Flat) (τ : List UInt8) : Prop where
  i3 : c.op = 3 → ∃ τ', τ = τ' ++ [105] ∧ T (pc + 1) = some τ' ∧ G pc = some τ'
  i4 : c.op = 4 → G pc = some τ
  i5 : c.op = 5 ∨ c.op = 9 → ∃ τ', τ = τ' ++ u.results
  i6 : c.op = 6 → JX G pc τ c
  i7 : c.op = 7 → ∃ τ', τ = τ' ++ [105] ∧ T (pc + 1) = some τ' ∧ JX G pc τ' c
  i8 : c.op = 8 → ∃ τ', τ = τ' ++ [105] ∧ 0 ≤ c.imm ∧ c.imm ≤ 1000 ∧ ∀ k : Nat, (k : Int) ≤ c.imm → ∃ e, code[pc + 1 + k]? = some e ∧ e.op = 6 ∧ JX G (pc + 1 + k) τ' e
  i10 : c.op = 10 → ∃ f τ', 0 ≤ c.imm ∧ P.funs[c.imm.toNat]? = some f ∧ τ = τ' ++ f.params ∧ T (pc + 1) = some (τ' ++ f.results)
  i11 : c.op = 11 → ∃ τ' t, τ = τ' ++ [t] ∧ T (pc + 1) = some τ'
  i12 : c.op = 12 → ∃ τ' t, τ = τ' ++ [t, t, 105] ∧ T (pc + 1) = some (τ' ++ [t])
  i13 : c.op = 13 → ∃ t, 0 ≤ c.imm ∧ (u.params ++ u.locals)[c.imm.toNat]? = some t ∧ T (pc + 1) = some (τ ++ [t])
  i14 : c.op = 14 → ∃ t τ', 0 ≤ c.imm ∧ (u.params ++ u.locals)[c.imm.toNat]? = some t ∧ τ = τ' ++ [t] ∧ T (pc + 1) = some τ'
  ip : ¬ (c.op = 0 ∨ (3 ≤ c.op ∧ c.op ≤ 14)) → ∃ i o τ', sigs c.op = some (i, o) ∧ τ = τ' ++ i ∧ T (pc + 1) = some (τ' ++ o) ∧ (c.op = 18 → i64ok c.imm)
/-- The code may grow, and holes may be filled. -/
def CodeLe (a b : List Flat) : Prop := ∀ (k : Nat) (e : Flat), a[k]? = some e → ∃ e' : Flat, b[k]? = some e' ∧ e'.op = e.op ∧ e'.cut = e.cut ∧ e'.keep = e.keep ∧ (¬ jop e.op → e' = e)
theorem CodeLe.app (a b : List Flat) : CodeLe a (a ++ b) := fun k e h => ⟨e, by rw [List.getElem?_append_left (List.getElem?_eq_some_iff.1 h).1]; exact h, rfl, rfl, rfl, fun _ => rfl⟩
theorem CodeLe.refl (a : List Flat) : CodeLe a a := fun k e h => ⟨e, h, rfl, rfl, rfl, fun _ => rfl⟩
theorem CodeLe.trans {a b c : List Flat} (h : CodeLe a b) (g : CodeLe b c) : CodeLe a c := fun k e he => by
  obtain ⟨e1, h1, h2, h3, h4, h5⟩ := h k e he
  obtain ⟨e2, g1, g2, g3, g4, g5⟩ := g k e1 h1
  exact ⟨e2, g1, g2.trans h2, g3.trans h3, g4.trans h4, fun hn => (g5 (by rw [h2]; exact hn)).trans (h5 hn)⟩
theorem JX.mono {G G' : Goals} (hG : ∀ a t, G a = some t → G' a = some t) {a : Nat} {τ : List UInt8} {c c' : Flat} (hc : c'.cut = c.cut) (hk : c'.keep = c.keep) (h : JX G a τ c) : JX G' a τ c' := by
  obtain ⟨h1, h2, h3, h4⟩ := h
  refine ⟨by rw [hc]; exact h1, by rw [hk]; exact h2, by rw [hc, hk]; exact h3, by rw [hc, hk]; exact hG _ _ h4⟩
theorem IX.mono {P : Prog} {u : Fun} {code code' : List Flat} {T T' : Typ} {G G' : Goals} {pc : Nat} {c c' : Flat} {τ : List UInt8} (h : IX P u code T G pc c τ) (hC : CodeLe code code') (hT : ∀ a t, T a = some t → T' a = some t) (hG : ∀ a t, G a = some t → G' a = some t)
    (ho : c'.op = c.op) (hc : c'.cut = c.cut) (hk : c'.keep = c.keep) (he : ¬ jop c.op → c' = c) : IX P u code' T' G' pc c' τ where
  i3 := fun hh => by rw [ho] at hh; obtain ⟨τ', h1, h2, h3⟩ := h.i3 hh; exact ⟨τ', h1, hT _ _ h2, hG _ _ h3⟩
  i4 := fun hh => by rw [ho] at hh; exact hG _ _ (h.i4 hh)
  i5 := fun hh => by rw [ho] at hh; exact h.i5 hh
  i6 := fun hh => by rw [ho] at hh; exact (h.i6 hh).mono hG hc hk
  i7 := fun hh => by rw [ho] at hh; obtain ⟨τ', h1, h2, h3⟩ := h.i7 hh; exact ⟨τ', h1, hT _ _ h2, h3.mono hG hc hk⟩
  i8 := fun hh => by
    rw [ho] at hh
    have e := he (by unfold jop; omega)
    obtain ⟨τ', h1, h2, h3, h4⟩ := h.i8 hh
    refine ⟨τ', h1, by rw [e]; exact h2, by rw [e]; exact h3, fun k hk' => ?_⟩
    rw [e] at hk'
    obtain ⟨x, g1, g2, g3⟩ := h4 k hk'
    obtain ⟨x', k1, k2, k3, k4, _⟩ := hC _ _ g1
    exact ⟨x', k1, k2.trans g2, g3.mono hG k3 k4⟩
  i10 := fun hh => by
    rw [ho] at hh; have e := he (by unfold jop; omega)
    obtain ⟨f, τ', h1, h2, h3, h4⟩ := h.i10 hh; rw [e]; exact ⟨f, τ', h1, h2, h3, hT _ _ h4⟩
  i11 := fun hh => by rw [ho] at hh; obtain ⟨τ', t, h1, h2⟩ := h.i11 hh; exact ⟨τ', t, h1, hT _ _ h2⟩
  i12 := fun hh => by rw [ho] at hh; obtain ⟨τ', t, h1, h2⟩ := h.i12 hh; exact ⟨τ', t, h1, hT _ _ h2⟩
  i13 := fun hh => by
    rw [ho] at hh; have e := he (by unfold jop; omega)
    obtain ⟨t, h1, h2, h3⟩ := h.i13 hh; rw [e]; exact ⟨t, h1, h2, hT _ _ h3⟩
  i14 := fun hh => by
    rw [ho] at hh; have e := he (by unfold jop; omega)
    obtain ⟨t, τ', h1, h2, h3, h4⟩ := h.i14 hh; rw [e]; exact ⟨t, τ', h1, h2, h3, hT _ _ h4⟩
  ip := fun hh => by
    rw [ho] at hh; have e := he (by unfold jop; omega)
    obtain ⟨i, o, τ', h1, h2, h3, h4⟩ := h.ip hh; rw [e]; exact ⟨i, o, τ', h1, h2, hT _ _ h3, h4⟩
def Pend (C : Chk) (a : Nat) (t : List UInt8) : Prop := ∃ (j : Nat) (b : Blk), C.opn[j]? = some b ∧ liveTo C.opn j ∧ ((a ∈ b.wait ∧ t = C.st.take b.height ++ b.res) ∨ (b.alt = some a ∧ t = C.st.take b.height))
def Free (C : Chk) (a : Nat) : Prop := ∀ b, b ∈ C.opn → a ∉ pend b
/-- One typing says no less than another. -/
def TLe (T T' : Typ) : Prop := ∀ a t, T a = some t → T' a = some t
theorem TLe.refl (T : Typ) : TLe T T := fun _ _ h => h
theorem TLe.trans {A B C : Typ} (h : TLe A B) (g : TLe B C) : TLe A C := fun a t x => g a t (h a t x)
structure VI (P : Prog) (u : Fun) (n : Nat) (C : Chk) (T : Typ) (G : Goals) : Prop where
  ne : C.opn ≠ []
  ht : ∀ b, b ∈ C.opn → b.height ≤ C.st.length
  inc : ∀ (i j : Nat) (a b : Blk), i ≤ j → C.opn[i]? = some a → C.opn[j]? = some b → a.height ≤ b.height
  res : ∀ b, b ∈ C.opn → b.res.length ≤ 1 ∧ ty2 b.res ∧ (b.head < 0 → b.carry = b.res) ∧ (0 ≤ b.head → b.carry = [])
  stn : C.st.length ≤ n
  zst : Live C → ty2 C.st
  zht : ∀ (j : Nat) (b : Blk), C.opn[j]? = some b → liveTo C.opn j → ty2 (C.st.take b.height)
  cur : Live C → T C.code.length = some C.st
  curN : ¬ Live C → T C.code.length = none
  out : ∀ pc, C.code.length < pc → T pc = none
  tl : ∀ pc τ, T pc = some τ → τ.length ≤ n ∧ ty2 τ
  ins : ∀ (pc : Nat) (τ : List UInt8) (c : Flat), C.code[pc]? = some c → T pc = some τ → IX P u C.code T G pc c τ
  gl : ∀ (a : Nat) (t : List UInt8), G a = some t → a < C.code.length ∧ (Pend C a t ∨ (Free C a ∧ ∃ c, C.code[a]? = some c ∧ 0 ≤ c.imm ∧ T c.imm.toNat = some t ∧ (c.op = 4 → (a : Int) < c.imm)))
  pj : ∀ b, b ∈ C.opn → ∀ a, a ∈ pend b → ∃ c, C.code[a]? = some c ∧ jop c.op
  pu : ∀ (i j : Nat) (a b : Blk) (x : Nat), C.opn[i]? = some a → C.opn[j]? = some b → x ∈ pend a → x ∈ pend b → i = j
  pw : ∀ b, b ∈ C.opn → ∀ a, b.alt = some a → a ∉ b.wait
  hd : ∀ (j : Nat) (b : Blk), C.opn[j]? = some b → 0 ≤ b.head → b.head.toNat ≤ C.code.length ∧ (liveTo C.opn j → T b.head.toNat = some (C.st.take b.height))
  bot : ∀ (b : Blk), C.opn[0]? = some b → b.res = u.results ∧ b.height = 0 ∧ b.head < 0 ∧ b.alt = none
  z0 : T 0 = some []
end Go.Wl
