/- Plain: the scanner by what is left of the text; a number's text within it. -/
import Derived.Test.Qxb6500573aGreatDoorBP
namespace Go.Wl
open Go Go.Sl Go.Proofs
set_option linter.unusedVariables false
def scanS : Nat → List UInt8 → Nat → Nat → List Tok → Option (List Tok)
  | 0, _, _, _, _ => none
  | n + 1, w, pos, sk, toks => if 100000 < toks.length then none else match w with
    | [] => some (toks ++ [⟨0, pos, [], 0, 0⟩])
    | c :: w' => if 0 < sk then scanS n w' (pos + 1) (sk - 1) toks else match lexS w pos c.toNat with
      | none => none
      | some (.skip e) => scanS n w' (pos + 1) (e - 1) toks
      | some (.tok e t) => if t.kind = 1 then some (toks ++ [t]) else scanS n w' (pos + 1) (e - 1) (toks ++ [{ t with err := 0 }])
theorem scan_drop {src : List UInt8} (ha : ascii src) : ∀ (n pos endp : Nat) (toks : List Tok), pos ≤ src.length → scanL n src pos endp toks = scanS n (src.drop pos) pos (endp - pos) toks
  | 0, _, _, _, _ => rfl
  | n + 1, pos, endp, toks, hp => by
    unfold scanL scanS
    split
    · rfl
    · by_cases hl : pos < src.length
      · rw [if_pos hl, List.drop_eq_getElem_cons hl]
        dsimp only
        rw [rune_ascii ha hl]
        dsimp only
        by_cases he : pos < endp
        · rw [if_pos he, if_pos (by omega), scan_drop ha n (pos + 1) endp toks (by omega), show endp - (pos + 1) = endp - pos - 1 from by omega]
        · rw [if_neg he, if_neg (by omega), lex_drop src pos hl, List.drop_eq_getElem_cons hl]
          cases lexS (src[pos] :: src.drop (pos + 1)) pos ((src[pos].toNat : Nat) : Int) with
          | none => rfl
          | some r =>
            cases r with
            | skip e =>
              dsimp only [Option.map, LexR.at]
              rw [scan_drop ha n (pos + 1) (pos + e) toks (by omega), show pos + e - (pos + 1) = e - 1 from by omega]
            | tok e t =>
              dsimp only [Option.map, LexR.at]
              split
              · rfl
              · rw [scan_drop ha n (pos + 1) (pos + e) _ (by omega), show pos + e - (pos + 1) = e - 1 from by omega]
      · rw [if_neg hl, List.drop_eq_nil_of_le (by omega)]
        dsimp only
        rw [show pos = src.length from by omega]
theorem scanS_mono : ∀ (n : Nat) {w : List UInt8} {pos sk : Nat} {toks r : List Tok}, scanS n w pos sk toks = some r → ∀ k, scanS (n + k) w pos sk toks = some r
  | 0, _, _, _, _, _, h, _ => by cases h
  | n + 1, w, pos, sk, toks, r, h, k => by
    rw [show n + 1 + k = (n + k) + 1 from by omega]
    unfold scanS at h ⊢
    split at h
    · cases h
    · rename_i hc
      rw [if_neg hc]
      cases w with
      | nil => exact h
      | cons c w' =>
        dsimp only at h ⊢
        split at h
        · rename_i hs
          rw [if_pos hs]
          exact scanS_mono n h k
        · rename_i hs
          rw [if_neg hs]
          cases hx : lexS (c :: w') pos ((c.toNat : Nat) : Int) with
          | none => rw [hx] at h; cases h
          | some z =>
            rw [hx] at h
            cases z with
            | skip e =>
              dsimp only at h ⊢
              exact scanS_mono n h k
            | tok e t =>
              dsimp only at h ⊢
              split at h
              · rename_i ht
                rw [if_pos ht]; exact h
              · rename_i ht
                rw [if_neg ht]; exact scanS_mono n h k
/-- Characters that are passed over. -/
theorem scanS_skip : ∀ (u : List UInt8) (n : Nat) (q : List UInt8) (pos : Nat) (toks : List Tok), toks.length ≤ 100000 → scanS (n + u.length) (u ++ q) pos u.length toks = scanS n q (pos + u.length) 0 toks
  | [], n, q, pos, toks, _ => rfl
  | c :: u, n, q, pos, toks, h => by
    rw [List.length_cons, show n + (u.length + 1) = (n + u.length) + 1 from by omega]
    show (if 100000 < toks.length then none else match (c :: (u ++ q)) with
      | [] => some (toks ++ [⟨0, pos, [], 0, 0⟩])
      | c :: w' => if 0 < u.length + 1 then scanS (n + u.length) w' (pos + 1) (u.length + 1 - 1) toks else _) = _
    rw [if_neg (by omega)]
    dsimp only
    rw [if_pos (by omega), Nat.add_sub_cancel, scanS_skip u n q (pos + 1) toks h, show pos + 1 + u.length = pos + (u.length + 1) from by omega]
/-- A number's text: digits, and perhaps 'p', a sign, digits. -/
def dgL (l : List UInt8) : Prop := l ≠ [] ∧ ∀ c, c ∈ l → digitM c = true
inductive NumT : List UInt8 → Prop where
  | int {a : List UInt8} : dgL a → NumT a
  | pos {a b : List UInt8} : dgL a → dgL b → NumT (a ++ 112 :: b)
  | neg {a b : List UInt8} : dgL a → dgL b → NumT (a ++ 112 :: 45 :: b)
/-- What may follow a number. -/
def stopQ (q : List UInt8) : Prop := match q with
  | [] => True
  | c :: _ => digitM c = false ∧ c.toNat ≠ 46 ∧ c.toNat ≠ 112
theorem tw_app {p : UInt8 → Bool} : ∀ (a q : List UInt8), (∀ c, c ∈ a → p c = true) → (∀ c r, q = c :: r → p c = false) → (a ++ q).takeWhile p = a
  | [], q, _, h => by
    cases q with
    | nil => rfl
    | cons c r =>
      show (c :: r).takeWhile p = []
      rw [List.takeWhile_cons, h c r rfl]
      rfl
  | c :: a, q, h, hq => by
    rw [List.cons_append, List.takeWhile_cons, h c List.mem_cons_self, if_pos rfl, tw_app a q (fun d hd => h d (List.mem_cons_of_mem _ hd)) hq]
theorem dgN_app {a q : List UInt8} (ha : dgL a) (hq : ∀ c r, q = c :: r → digitM c = false) : dgN (a ++ q) = a.length := by
  unfold dgN
  rw [tw_app a q ha.2 hq]
theorem stop_dig {q : List UInt8} (h : stopQ q) : ∀ c r, q = c :: r → digitM c = false := by
  rintro c r rfl
  exact h.1
theorem hasS_dg {a q : List UInt8} (ha : dgL a) : hasS (a ++ q) = true := by
  obtain ⟨h1, h2⟩ := ha
  cases a with
  | nil => exact absurd rfl h1
  | cons c a => exact h2 c List.mem_cons_self
theorem numS_num {t q : List UInt8} (ht : NumT t) (hq : stopQ q) : numS (t ++ q) = t.length := by
  cases ht with
  | int ha =>
    unfold numS
    rw [dgN_app ha (stop_dig hq), List.drop_left]
    cases q with
    | nil => rfl
    | cons c r =>
      dsimp only
      obtain ⟨h1, h2, h3⟩ := hq
      rw [if_pos (by omega)]
  | pos ha hb =>
    rename_i a b
    rw [List.append_assoc]
    unfold numS
    rw [dgN_app ha (by rintro c r h; injection h with h _; subst h; decide), List.drop_left]
    show (if (112 : Int) ≠ 46 ∧ (112 : Int) ≠ 112 then _ else if hasS (b ++ q) = true then a.length + 1 + dgN (b ++ q) else _) = _
    rw [if_neg (by decide), if_pos (hasS_dg hb), dgN_app hb (stop_dig hq)]
    simp
    omega
  | neg ha hb =>
    rename_i a b
    rw [List.append_assoc]
    unfold numS
    rw [dgN_app ha (by rintro c r h; injection h with h _; subst h; decide), List.drop_left]
    show (if (112 : Int) ≠ 46 ∧ (112 : Int) ≠ 112 then _ else if hasS (45 :: (b ++ q)) = true then _ else if hasS (b ++ q) = true ∧ (112 : Int) = 112 ∧ (45 : Int) = 45 then a.length + 2 + dgN (b ++ q) else _) = _
    rw [if_neg (by decide), if_neg (by show ¬ (digitM 45 = true); decide), if_pos ⟨hasS_dg hb, rfl, rfl⟩, dgN_app hb (stop_dig hq)]
    simp
    omega
theorem num_head {t : List UInt8} (ht : NumT t) : ∃ c u, t = c :: u ∧ digitM c = true := by
  have key : ∀ {a v : List UInt8}, dgL a → ∃ c u, a ++ v = c :: u ∧ digitM c = true := fun {a v} ha => by
    obtain ⟨h1, h2⟩ := ha
    cases a with
    | nil => exact absurd rfl h1
    | cons c a => exact ⟨c, a ++ v, rfl, h2 c List.mem_cons_self⟩
  cases ht with
  | int ha => have := key (v := []) ha; simpa using this
  | pos ha hb => exact key ha
  | neg ha hb => exact key ha
theorem digit_rng {c : UInt8} (h : digitM c = true) : 48 ≤ (c.toNat : Int) ∧ (c.toNat : Int) ≤ 57 := of_decide_eq_true h
/-- A number's text is one token. -/
theorem scan_num {t q : List UInt8} {x : Nat} (ht : NumT t) (hq : stopQ q) (hx : parseM t = some (x, 0)) (n pos : Nat) (toks : List Tok) (hl : toks.length < 100000) : scanS (n + t.length) (t ++ q) pos 0 toks = scanS n q (pos + t.length) 0 (toks ++ [⟨3, pos, [], (x : Nat), 0⟩]) := by
  obtain ⟨c, u, rfl, hc⟩ := num_head ht
  have hr := digit_rng hc
  have hlex : lexS (c :: u ++ q) pos ((c.toNat : Nat) : Int) = some (.tok (u.length + 1) ⟨3, pos, [], (x : Nat), 2⟩) := by
    unfold lexS
    have hns := numS_num ht hq
    have hlt : letterM ((c.toNat : Nat) : Int) = false := by
      unfold letterM
      exact decide_eq_false (by omega)
    rw [if_neg (by omega), if_neg (by omega), if_neg (by rw [hlt]; decide), if_pos hr, hns, List.take_left' rfl, hx]
    rfl
  rw [List.length_cons, show n + (u.length + 1) = (n + u.length) + 1 from by omega]
  show (if 100000 < toks.length then none else if 0 < 0 then _ else match lexS (c :: u ++ q) pos ((c.toNat : Nat) : Int) with
      | none => none
      | some (.skip e) => scanS (n + u.length) (u ++ q) (pos + 1) (e - 1) toks
      | some (.tok e t) => if t.kind = 1 then some (toks ++ [t]) else scanS (n + u.length) (u ++ q) (pos + 1) (e - 1) (toks ++ [{ t with err := 0 }])) = _
  rw [if_neg (by omega), if_neg (by omega), hlex]
  dsimp only
  rw [if_neg (by decide), Nat.add_sub_cancel, scanS_skip u n q (pos + 1) _ (by simp; omega), show pos + 1 + u.length = pos + (u.length + 1) from by omega]
end Go.Wl
