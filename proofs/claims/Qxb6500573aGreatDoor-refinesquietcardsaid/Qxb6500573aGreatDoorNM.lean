/- Plain: numm's Parse is num's: the scan. -/
import Derived.Test.Qxb6500573aGreatDoorNL
namespace Go.Nm
open Ieee Go.Sl Go.Wl
set_option linter.unusedVariables false
set_option linter.unusedSimpArgs false
abbrev dg (c : UInt8) : Prop := 48 ≤ c.toNat ∧ c.toNat ≤ 57
/-- The digits, with at most one point. -/
def scanW : List UInt8 → Nat → Nat → Nat → Int → Option (Nat × Nat × Nat × Int × List UInt8)
  | [], m, ten, nd, k => some (m, ten, nd, k, [])
  | c :: l, m, ten, nd, k =>
    if c.toNat = 46 ∧ k < 0 ∧ 0 < nd then scanW l m ten nd 0
    else if ¬ dg c then some (m, ten, nd, k, c :: l)
    else if 16 < nd + 1 then none
    else scanW l (m * 10 + (c.toNat - 48)) (if 0 ≤ k then ten * 10 else ten) (nd + 1) (if 0 ≤ k then k + 1 else k)
def expW : List UInt8 → Nat → Nat → Option (Nat × Nat)
  | [], e, ne => some (e, ne)
  | c :: l, e, ne => if ¬ dg c then none else if 4 < ne + 1 then none else expW l (e * 10 + (c.toNat - 48)) (ne + 1)
def parseWp (neg : Bool) (m : Nat) (l : List UInt8) : Nat × Int :=
  match expW (if (match l with | d :: _ => decide (d.toNat = 45) | [] => false) = true then l.drop 1 else l) 0 0 with
  | none => (0, 2)
  | some (e, ne) => if ne = 0 then (0, 2) else (pkM neg m (if (match l with | d :: _ => decide (d.toNat = 45) | [] => false) = true then -(e : Int) else e) false, 0)
def parseWs (neg : Bool) (r : List UInt8) : Nat × Int :=
  match scanW r 0 1 0 (-1) with
  | none => (0, 2)
  | some (m, ten, nd, k, rest) =>
    if nd = 0 ∨ k = 0 ∨ 9007199254740992 < m then (0, 2)
    else match rest with
      | [] => (sgB neg + (if 0 < k then divW (pkM false m 0 false) (pkM false ten 0 false) else pkM false m 0 false), 0)
      | c :: l => if c.toNat ≠ 112 ∨ 0 ≤ k then (0, 2) else parseWp neg m l
def negS (s : List UInt8) : Bool := match s with | c :: _ => decide ((c.toNat : Int) = 45) | [] => false
def parseW (s : List UInt8) : Nat × Int :=
  if 24 < s.length then (0, 1)
  else if (if negS s = true then s.drop 1 else s) = [105, 110, 102] then (sgB (negS s) + infB, 0)
  else if s = [110, 97, 110] then (nanW, 0)
  else parseWs (negS s) (if negS s = true then s.drop 1 else s)
theorem runD_dg {c : UInt8} {l : List UInt8} {m : Nat} (h : dg c) : runD (c :: l) m = ((runD l ((m * 10 + (c.toNat - 48)) % 18446744073709551616)).1, (runD l ((m * 10 + (c.toNat - 48)) % 18446744073709551616)).2.1 + 1, (runD l ((m * 10 + (c.toNat - 48)) % 18446744073709551616)).2.2) := by
  conv => lhs; unfold runD
  rw [if_pos h]
theorem runD_no {c : UInt8} {l : List UInt8} {m : Nat} (h : ¬ dg c) : runD (c :: l) m = (m, 0, c :: l) := by
  conv => lhs; unfold runD
  rw [if_neg h]
theorem scanW_cons (c : UInt8) (l : List UInt8) (m ten nd : Nat) (k : Int) : scanW (c :: l) m ten nd k = if c.toNat = 46 ∧ k < 0 ∧ 0 < nd then scanW l m ten nd 0
    else if ¬ dg c then some (m, ten, nd, k, c :: l)
    else if 16 < nd + 1 then none
    else scanW l (m * 10 + (c.toNat - 48)) (if 0 ≤ k then ten * 10 else ten) (nd + 1) (if 0 ≤ k then k + 1 else k) := by rw [scanW]
theorem expW_cons (c : UInt8) (l : List UInt8) (e ne : Nat) : expW (c :: l) e ne = if ¬ dg c then none else if 4 < ne + 1 then none else expW l (e * 10 + (c.toNat - 48)) (ne + 1) := by rw [expW]
theorem parseM_eq (s : List UInt8) : parseM s = if 24 < s.length then some (0, (1 : Int))
  else if s = [110, 97, 110] then some (nanB, 0)
  else match magM (if negS s = true then s.drop 1 else s) with
    | none => none
    | some (f, ok) => if ok = false then some (0, 2) else some (if negS s = true then Op.negFloat .f64 f else f, 0) := by
  cases s <;> rfl
theorem small {m nd d : Nat} (h : m < 10 ^ nd) (hd : d ≤ 9) (hn : ¬ 16 < nd + 1) : (m * 10 + d) % 18446744073709551616 = m * 10 + d ∧ m * 10 + d < 10 ^ (nd + 1) := by
  have h1 : m * 10 + d < 10 ^ (nd + 1) := by rw [Nat.pow_succ]; omega
  have h2 : 10 ^ (nd + 1) ≤ 10 ^ 16 := Nat.pow_le_pow_right (by decide) (by omega)
  exact ⟨Nat.mod_eq_of_lt (by omega), h1⟩
theorem scan2 : ∀ (l : List UInt8) (m ten nd : Nat) (k : Int), 0 ≤ k → m < 10 ^ nd → scanW l m ten nd k =
    if 16 < nd + (runD l m).2.1 ∧ 0 < (runD l m).2.1 then none else some ((runD l m).1, ten * 10 ^ (runD l m).2.1, nd + (runD l m).2.1, k + (runD l m).2.1, (runD l m).2.2)
  | [], m, ten, nd, k, hk, hm => by
    rw [show runD [] m = (m, 0, []) from rfl]
    dsimp only
    rw [if_neg (by omega)]; simp [scanW]
  | c :: l, m, ten, nd, k, hk, hm => by
    rw [scanW_cons]
    rw [if_neg (fun q => by omega)]
    by_cases d : dg c
    · rw [if_neg (fun q => q d), runD_dg d]
      by_cases hn : 16 < nd + 1
      · rw [if_pos hn, if_pos ⟨by dsimp only; omega, by dsimp only; omega⟩]
      · have hs := small (d := c.toNat - 48) hm (by omega) hn
        rw [if_neg hn, if_pos hk, if_pos hk, scan2 l _ _ _ _ (by omega) hs.2, hs.1]
        dsimp only
        by_cases q : 16 < nd + 1 + (runD l (m * 10 + (c.toNat - 48))).2.1
        · by_cases z : 0 < (runD l (m * 10 + (c.toNat - 48))).2.1
          · rw [if_pos ⟨q, z⟩, if_pos ⟨by omega, by omega⟩]
          · omega
        · have q2 : ¬ (16 < nd + ((runD l (m * 10 + (c.toNat - 48))).2.1 + 1) ∧ 0 < (runD l (m * 10 + (c.toNat - 48))).2.1 + 1) := by omega
          rw [if_neg (fun w => q w.1), if_neg q2, Nat.pow_succ', ← Nat.mul_assoc, show nd + 1 + (runD l (m * 10 + (c.toNat - 48))).2.1 = nd + ((runD l (m * 10 + (c.toNat - 48))).2.1 + 1) by omega, show k + 1 + ((runD l (m * 10 + (c.toNat - 48))).2.1 : Int) = k + (((runD l (m * 10 + (c.toNat - 48))).2.1 + 1 : Nat) : Int) by omega]
    · rw [if_pos d, runD_no d]
      dsimp only
      rw [if_neg (by omega)]; simp
theorem scan1 : ∀ (l : List UInt8) (m nd : Nat), m < 10 ^ nd → scanW l m 1 nd (-1) =
    if 16 < nd + (runD l m).2.1 ∧ 0 < (runD l m).2.1 then none else
      match (runD l m).2.2 with
      | [] => some ((runD l m).1, 1, nd + (runD l m).2.1, -1, [])
      | c :: w => if c.toNat = 46 ∧ 0 < nd + (runD l m).2.1 then scanW w (runD l m).1 1 (nd + (runD l m).2.1) 0 else some ((runD l m).1, 1, nd + (runD l m).2.1, -1, c :: w)
  | [], m, nd, hm => by
    rw [show runD [] m = (m, 0, []) from rfl]
    dsimp only
    rw [if_neg (by omega)]; rfl
  | c :: l, m, nd, hm => by
    rw [scanW_cons]
    by_cases d : dg c
    · have d46 : ¬ c.toNat = 46 := by omega
      rw [if_neg (fun q => d46 q.1), if_neg (fun q => q d), runD_dg d]
      by_cases hn : 16 < nd + 1
      · rw [if_pos hn, if_pos ⟨by dsimp only; omega, by dsimp only; omega⟩]
      · have hs := small (d := c.toNat - 48) hm (by omega) hn
        rw [if_neg hn, if_neg (by decide), if_neg (by decide), scan1 l _ _ hs.2, hs.1]
        dsimp only
        rw [show nd + 1 + (runD l (m * 10 + (c.toNat - 48))).2.1 = nd + ((runD l (m * 10 + (c.toNat - 48))).2.1 + 1) by omega]
        by_cases q : 16 < nd + ((runD l (m * 10 + (c.toNat - 48))).2.1 + 1)
        · by_cases z : 0 < (runD l (m * 10 + (c.toNat - 48))).2.1
          · rw [if_pos ⟨q, z⟩, if_pos ⟨q, by omega⟩]
          · omega
        · rw [if_neg (fun w => q w.1), if_neg (fun w => q w.1)]
    · rw [runD_no d]
      dsimp only
      rw [if_neg (show ¬ (16 < nd + 0 ∧ 0 < 0) by omega)]
      by_cases c46 : c.toNat = 46 ∧ 0 < nd
      · rw [if_pos ⟨c46.1, by decide, c46.2⟩, if_pos ⟨c46.1, by omega⟩]; rfl
      · rw [if_neg (fun q => c46 ⟨q.1, q.2.2⟩), if_pos d, if_neg (fun q => c46 ⟨q.1, by omega⟩)]; rfl
theorem exp1 : ∀ (l : List UInt8) (e ne : Nat), e < 10 ^ ne → ne ≤ 4 → expW l e ne = if (runD l e).2.2 ≠ [] ∨ 4 < ne + (runD l e).2.1 then none else some ((runD l e).1, ne + (runD l e).2.1)
  | [], e, ne, h, hn => by
    rw [show runD [] e = (e, 0, []) from rfl]
    dsimp only
    rw [if_neg (fun q => q.elim (fun q => q rfl) (fun q => by omega))]; rfl
  | c :: l, e, ne, h, hn => by
    rw [expW_cons]
    by_cases d : dg c
    · rw [if_neg (fun q => q d), runD_dg d]
      dsimp only
      by_cases h4 : 4 < ne + 1
      · rw [if_pos h4, if_pos (Or.inr (by omega))]
      · have hs := small (d := c.toNat - 48) h (by omega) (by omega)
        rw [if_neg h4, exp1 l _ _ hs.2 (by omega), hs.1, show ne + 1 + (runD l (e * 10 + (c.toNat - 48))).2.1 = ne + ((runD l (e * 10 + (c.toNat - 48))).2.1 + 1) by omega]
    · rw [if_pos d, runD_no d]
      dsimp only
      rw [if_pos (Or.inl (by simp))]
theorem near_i (n : Nat) : FloatKind.f64.nearest (n : Int) = double.nearest false n 0 := by
  show double.nearest (decide ((n : Int) < 0)) (n : Int).natAbs 0 = _
  rw [decide_eq_false (by omega), Int.natAbs_natCast]
theorem negF_eq {f : Nat} (h : f < 9223372036854775808) : Op.negFloat .f64 f = sgB true + f := by
  show f ^^^ 2 ^ 63 = 9223372036854775808 + f
  have e2 := Nat.two_pow_add_eq_or_of_lt (i := 63) (b := f) (by simpa using h) 1
  rw [Nat.mul_one] at e2
  rw [show 9223372036854775808 + f = 2 ^ 63 + f by omega, e2]
  apply Nat.eq_of_testBit_eq
  intro i
  rw [Nat.testBit_xor, Nat.testBit_or, Nat.testBit_two_pow]
  by_cases q : 63 = i
  · subst q; rw [Nat.testBit_lt_two_pow (by simpa using h)]; simp
  · simp [q]
theorem near_flip (m : Nat) (p : Int) : double.nearest false m p < 9223372036854775808 ∧ double.nearest true m p = sgB true + double.nearest false m p := by
  by_cases h : m = 0
  · subst h; rw [near_zero, near_zero]; decide
  · rw [near_eq _ h, near_eq _ h, show sgB false = 0 from rfl, Nat.zero_add]
    exact ⟨by have := Nat.min_le_right ((lst (p + m.log2) + 1074).toNat * 4503599627370496 + rn (m * 2 ^ (p - lst (p + m.log2)).toNat) (lst (p + m.log2) - p).toNat) infB; unfold infB at *; omega, rfl⟩
theorem sgneg {neg : Bool} {f : Nat} (h : f < 9223372036854775808) : (if neg = true then Op.negFloat .f64 f else f) = sgB neg + f := by
  cases neg
  · simp [sgB]
  · rw [if_pos rfl, negF_eq h]
/-- One whole number by another, both small. -/
theorem div_small {a b : Nat} (ha : a ≤ 9007199254740992) (hb : b ≤ 9007199254740992) (hb0 : b ≠ 0) : fdiv (FloatKind.f64.nearest (a : Int)) (FloatKind.f64.nearest (b : Int)) = some (divW (pkM false a 0 false) (pkM false b 0 false)) ∧ divW (pkM false a 0 false) (pkM false b 0 false) < 9223372036854775808 := by
  rw [near_i, near_i, pack_exact _ (by omega), pack_exact _ (by omega)]
  have h1 := near_nat ha
  have h2 := near_nat hb
  have hk := h2.2.2 hb0
  generalize double.nearest false a 0 = x at *
  generalize double.nearest false b 0 = y at *
  have sg : ∀ x, x < 9218868437227405312 → sgW x = false := fun x hx => by unfold sgW; rw [show x / 9223372036854775808 % 2 = 0 by omega]; rfl
  have hy0 : pM y ≠ 0 := by omega
  have hd : ∃ m p, double.div x y = some (double.nearest false m p) := by
    unfold Format.div
    rw [read_fin (by unfold mgW infB; omega), read_fin (by unfold mgW infB; omega), sg x h1.1, sg y h2.1]
    simp only [Datum.quotient]
    rw [if_neg hy0]
    exact ⟨_, _, rfl⟩
  obtain ⟨m, p, hd⟩ := hd
  have hw := divW_ok (a := x) (b := y) (by omega) (by omega)
  rw [hd, Option.getD_some] at hw
  rw [hw]
  exact ⟨hd, (near_flip m p).1⟩
theorem parse_p (neg : Bool) (m : Nat) (hm : m ≤ 9007199254740992) (l : List UInt8) : (match (if (runD (if (match l with | d :: _ => decide ((d.toNat : Int) = 45) | [] => false) = true then l.drop 1 else l) 0).2.1 = 0 ∨ 4 < (runD (if (match l with | d :: _ => decide ((d.toNat : Int) = 45) | [] => false) = true then l.drop 1 else l) 0).2.1 ∨ (runD (if (match l with | d :: _ => decide ((d.toNat : Int) = 45) | [] => false) = true then l.drop 1 else l) 0).2.2 ≠ [] ∨ 9007199254740992 < m then some (0, false)
          else (ldexpM (FloatKind.f64.nearest m) (if (match l with | d :: _ => decide ((d.toNat : Int) = 45) | [] => false) = true then -((runD (if (match l with | d :: _ => decide ((d.toNat : Int) = 45) | [] => false) = true then l.drop 1 else l) 0).1 : Int) else (runD (if (match l with | d :: _ => decide ((d.toNat : Int) = 45) | [] => false) = true then l.drop 1 else l) 0).1)).map fun x => (x, true)) with
    | none => none
    | some (f, ok) => if ok = false then some (0, 2) else some (if neg = true then Op.negFloat .f64 f else f, (0 : Int))) = some (parseWp neg m l) := by
  have ed : (match l with | d :: _ => decide ((d.toNat : Int) = 45) | [] => false) = (match l with | d :: _ => decide (d.toNat = 45) | [] => false) := by
    cases l with
    | nil => rfl
    | cons d l => exact decide_eq_decide.2 (by omega)
  rw [ed]
  unfold parseWp
  generalize (match l with | d :: _ => decide (d.toNat = 45) | [] => false) = down
  rw [exp1 _ 0 0 (by decide) (by decide), Nat.zero_add]
  generalize runD (if down = true then l.drop 1 else l) 0 = q
  by_cases c : q.2.1 = 0 ∨ 4 < q.2.1 ∨ q.2.2 ≠ [] ∨ 9007199254740992 < m
  · rw [if_pos c]
    dsimp only
    rw [if_pos rfl]
    by_cases c2 : q.2.2 ≠ [] ∨ 4 < q.2.1
    · rw [if_pos c2]
    · rw [if_neg c2]
      dsimp only
      rw [if_pos]
      rcases c with c | c | c | c
      · exact c
      · exact absurd (Or.inr c) c2
      · exact absurd (Or.inl c) c2
      · omega
  · have c2 : ¬ (q.2.2 ≠ [] ∨ 4 < q.2.1) := fun w => w.elim (fun w => c (Or.inr (Or.inr (Or.inl w)))) (fun w => c (Or.inr (Or.inl w)))
    rw [if_neg c, if_neg c2, ldexp_eq hm]
    dsimp only [Option.map_some]
    rw [if_neg (show ¬ true = false by decide), if_neg (fun w => c (Or.inl w)), pack_exact _ (by omega), sgneg (near_flip _ _).1]
    cases neg
    · simp [sgB]
    · rw [(near_flip _ _).2]
theorem parseW_ok (s : List UInt8) : parseM s = some (parseW s) := by
  rw [parseM_eq]
  unfold parseW
  by_cases h24 : 24 < s.length
  · rw [if_pos h24, if_pos h24]
  rw [if_neg h24, if_neg h24]
  by_cases hn : s = [110, 97, 110]
  · subst hn; rfl
  rw [if_neg hn, if_neg hn]
  generalize negS s = neg
  generalize (if neg = true then s.drop 1 else s) = r
  by_cases hi : r = [105, 110, 102]
  · rw [if_pos hi]
    unfold magM
    rw [if_pos hi]
    dsimp only
    rw [if_neg (by decide), sgneg (by decide)]
    rfl
  rw [if_neg hi]
  unfold magM parseWs
  rw [if_neg hi, scan1 r 0 0 (by decide)]
  dsimp only
  rw [Nat.zero_add]
  have hb := runD_bound r 0 0 (by decide)
  rw [Nat.zero_add] at hb
  generalize runD r 0 = q at *
  obtain ⟨m, nd, rest⟩ := q
  dsimp only at *
  by_cases c1 : nd = 0 ∨ 16 < nd
  · rw [if_pos c1]
    dsimp only
    rw [if_pos rfl]
    rcases c1 with c1 | c1
    · subst c1
      rw [if_neg (fun w => by omega)]
      cases rest with
      | nil => rfl
      | cons c w =>
        dsimp only
        rw [if_neg (fun w => by omega)]
        rfl
    · rw [if_pos ⟨c1, by omega⟩]
  · rw [if_neg c1, if_neg (fun w => by omega)]
    have hm : m < 10 ^ nd := hb (by omega)
    have hm2 : m < 10 ^ 16 := Nat.lt_of_lt_of_le hm (Nat.pow_le_pow_right (by decide) (by omega))
    cases rest with
    | nil =>
      dsimp only
      by_cases c2 : 9007199254740992 < m
      · rw [if_pos (by simp; omega), if_pos (Or.inr (Or.inr c2))]
      · rw [if_neg (show ¬ decide ((m : Int) ≤ 9007199254740992) = false by simp; omega), if_neg (show ¬ (nd = 0 ∨ (-1 : Int) = 0 ∨ 9007199254740992 < m) by omega), if_neg (show ¬ (0 : Int) < -1 by decide), near_i, sgneg (near_flip _ _).1, pack_exact _ (by omega)]
    | cons c w =>
      dsimp only
      by_cases c46 : c.toNat = 46
      · rw [if_pos (show (c.toNat : Int) = 46 by omega), if_pos (show c.toNat = 46 ∧ 0 < nd from ⟨c46, by omega⟩), scan2 w m 1 nd 0 (by decide) hm]
        have hb2 := runD_bound w m nd hm
        generalize runD w m = q at *
        obtain ⟨all, k, rest⟩ := q
        dsimp only at *
        by_cases c3 : k = 0 ∨ rest ≠ [] ∨ 16 < nd + k ∨ 9007199254740992 < all
        · rw [if_pos c3]
          dsimp only
          rw [if_pos rfl]
          by_cases c4 : 16 < nd + k ∧ 0 < k
          · rw [if_pos c4]
          · rw [if_neg c4]
            dsimp only
            by_cases c5 : nd + k = 0 ∨ (0 : Int) + k = 0 ∨ 9007199254740992 < all
            · rw [if_pos c5]
            · rw [if_neg c5]
              cases rest with
              | nil => exfalso; rcases c3 with c3 | c3 | c3 | c3 <;> first | omega | exact c3 rfl
              | cons d l =>
                dsimp only
                rw [if_pos (Or.inr (by omega))]
        · rw [if_neg c3, if_neg (fun w => by omega)]
          dsimp only
          have hr : rest = [] := Decidable.byContradiction fun w => c3 (Or.inr (Or.inl w))
          subst hr
          have hk : k ≤ 15 := by omega
          have ht : 10 ^ k ≤ 10 ^ 15 := Nat.pow_le_pow_right (by decide) hk
          have ht0 : 10 ^ k ≠ 0 := Nat.ne_of_gt (Nat.pow_pos (by decide))
          have hdv := div_small (a := all) (b := 10 ^ k) (by omega) (by omega) ht0
          rw [hdv.1, if_neg (by omega), if_pos (by omega), Nat.one_mul]
          dsimp only [Option.map_some]
          rw [if_neg (by decide), sgneg hdv.2]
      · rw [if_neg (show ¬ (c.toNat : Int) = 46 by omega), if_neg (show ¬ (c.toNat = 46 ∧ 0 < nd) from fun w => c46 w.1)]
        dsimp only
        by_cases c112 : c.toNat = 112
        · rw [if_pos (show (c.toNat : Int) = 112 by omega)]
          by_cases c2 : 9007199254740992 < m
          · rw [if_pos (Or.inr (Or.inr c2)), if_pos (Or.inr (Or.inr (Or.inr c2)))]
            rfl
          · rw [if_neg (by omega : ¬ (nd = 0 ∨ (-1 : Int) = 0 ∨ 9007199254740992 < m)), if_neg (by omega : ¬ (c.toNat ≠ 112 ∨ (0 : Int) ≤ -1))]
            exact parse_p neg m (by omega) w
        · rw [if_neg (show ¬ (c.toNat : Int) = 112 by omega)]
          dsimp only
          rw [if_pos rfl]
          split
          · rfl
          · rw [if_pos (Or.inl c112)]
end Go.Nm
