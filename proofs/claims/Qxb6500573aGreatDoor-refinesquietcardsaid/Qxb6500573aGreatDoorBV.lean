/- Plain: a number's text and back. -/
import Derived.Test.Qxb6500573aGreatDoorBU
namespace Go.Wl
open Go Go.Sl Go.Proofs
set_option linter.unusedVariables false
theorem mg_ne {x : Nat} (h : x ≠ 0) : mg x ≠ 0 := by
  unfold mg
  split
  · exact h
  · omega
theorem vl_pos {x : Nat} (h : x ≠ 0) : 0 < vl x := Nat.mul_pos (Nat.pos_iff_ne_zero.2 (mg_ne h)) (Nat.two_pow_pos _)
/-- The whole part. -/
def flN (x : Nat) : Nat := Ieee.Toward.zero.cut false (mg x <<< (pl x).toNat) (-(pl x)).toNat
theorem toInt_fl {x : Nat} (h : x < 9218868437227405312) : (FloatKind.f64.decode x).toInt .zero = some ((flN x : Nat) : Int) := by
  rw [read_fin h]
  show some (Ieee.signed false (flN x) 0) = _
  rw [sgn_f, Nat.pow_zero, Nat.mul_one]
theorem floor_fl {x : Nat} (h : x < 9218868437227405312) : floorF x = FloatKind.f64.nearest ((flN x : Nat) : Int) := by
  unfold floorF
  rw [read_fin h]
  show Ieee.double.nearest false (Ieee.Toward.down.cut false (mg x <<< (pl x).toNat) (-(pl x)).toNat) 0 = Ieee.double.nearest (decide (((flN x : Nat) : Int) < 0)) ((flN x : Nat) : Int).natAbs 0
  rw [decide_eq_false (by omega), Int.natAbs_natCast]
  rfl
theorem ar10 {p : Int} (h : -1074 ≤ p) : p.toNat + 1074 = (p + 1074).toNat + (-p).toNat := by omega
theorem ar11 (d : Nat) : 53 + d + 1074 = 52 + 1075 + d := by omega
theorem pw3 {m a b c d : Nat} (h : a + b = c + d) : m * 2 ^ a * 2 ^ b = m * 2 ^ c * 2 ^ d := by rw [Nat.mul_assoc, Nat.mul_assoc, ← Nat.pow_add, ← Nat.pow_add, h]
theorem pw4 {a b c d : Nat} (h : a + b = c + d) : 2 ^ a * 2 ^ b = 2 ^ c * 2 ^ d := by rw [← Nat.pow_add, ← Nat.pow_add, h]
theorem cut_lt {n d : Nat} (h : n < 2 ^ (53 + d)) : Ieee.Toward.zero.cut false n d < 9007199254740992 := by
  have e : Ieee.Toward.zero.cut false n d = n / 2 ^ (min d (n.log2 + 2)) := by
    unfold Ieee.Toward.cut
    dsimp only
    rw [shl_eq, Nat.one_mul]
    rfl
  rw [e]
  have h53 : (9007199254740992 : Nat) = 2 ^ 53 := by decide
  rw [h53]
  by_cases hd : d ≤ n.log2 + 2
  · rw [Nat.min_eq_left hd]
    exact (Nat.div_lt_iff_lt_mul (Nat.two_pow_pos d)).2 (by rw [← Nat.pow_add]; exact h)
  · rw [Nat.min_eq_right (by omega)]
    have h1 : n < 2 ^ (n.log2 + 2) := by
      by_cases h0 : n = 0
      · rw [h0]; exact Nat.two_pow_pos _
      · exact (Nat.log2_lt h0).1 (by omega)
    rw [Nat.div_eq_of_lt h1]
    exact Nat.two_pow_pos 53
set_option exponentiation.threshold 3000 in
theorem fl_lt {x : Nat} (h : x < 9218868437227405312) (c : ford x two53 = some .lt) : flN x < 9007199254740992 := by
  rw [ford_vl h (by decide)] at c
  injection c with c
  rw [cmp_lt] at c
  have e1 : vl two53 = 2 ^ (52 + 1075) := by
    unfold vl
    rw [show mg two53 = 2 ^ 52 from by decide, show (pl two53 + 1074).toNat = 1075 from by decide]
  rw [e1] at c
  refine cut_lt ?_
  rw [shl_eq]
  have e2 : mg x * 2 ^ (pl x).toNat * 2 ^ 1074 = vl x * 2 ^ (-(pl x)).toNat := by
    unfold vl
    exact @pw3 (mg x) (pl x).toNat 1074 (pl x + 1074).toNat (-(pl x)).toNat (ar10 (pl_ge x))
  have e3 : mg x * 2 ^ (pl x).toNat * 2 ^ 1074 < 2 ^ (53 + (-(pl x)).toNat) * 2 ^ 1074 := by
    rw [e2, pw4 (ar11 (-(pl x)).toNat)]
    exact Nat.mul_lt_mul_of_pos_right c (Nat.two_pow_pos _)
  exact Nat.lt_of_mul_lt_mul_right e3
theorem fl_val {x : Nat} (h : x < 9218868437227405312) (h0 : x ≠ 0) (c1 : ford x two53 = some .lt) (c2 : ford x (floorF x) = some .eq) : vl x = flN x * 2 ^ 1074 := by
  have hl := fl_lt h c1
  rw [floor_fl h] at c2
  by_cases hz : flN x = 0
  · rw [hz] at c2
    have e : FloatKind.f64.nearest ((0 : Nat) : Int) = 0 := by decide
    rw [e, ford_vl h (by decide)] at c2
    injection c2 with c2
    rw [cmp_eq] at c2
    have e0 : vl 0 = 0 := by unfold vl; rw [show mg 0 = 0 from by decide, Nat.zero_mul]
    rw [e0] at c2
    have := vl_pos h0
    rw [c2] at this
    exact absurd this (Nat.lt_irrefl _)
  · rw [near_nat hz hl] at c2
    obtain ⟨a1, _⟩ := rgN_parts hz hl
    rw [ford_vl h a1] at c2
    injection c2 with c2
    rw [cmp_eq] at c2
    rw [c2, vl_rgN hz hl]
theorem runD_utoa {u : Nat} (h : u < 18446744073709551616) {w : List UInt8} (hw : ∀ c r, w = c :: r → ¬ isD c) : runD (utoa u ++ w) 0 = (u, (utoa u).length, w) := by
  rw [runD_app _ _ _ (utoa_isD u), utoa_val h, runD_stop u hw]
  simp
theorem utoa_head (u : Nat) : ∃ c l, utoa u = c :: l ∧ isD c := by
  cases hu : utoa u with
  | nil => exact absurd hu (utoa_ne u)
  | cons c l => exact ⟨c, l, rfl, utoa_isD u c (by rw [hu]; exact List.mem_cons_self)⟩
/-- Reading a text that begins with a digit. -/
theorem parse_mag {s : List UInt8} {f : Nat} {c : UInt8} {l : List UInt8} (hs : s = c :: l) (hc : isD c) (hl : s.length ≤ 24) (hm : magM s = some (f, true)) : parseM s = some (f, 0) := by
  subst hs
  unfold isD at hc
  unfold parseM
  rw [if_neg (by omega), if_neg (by
    intro e
    injection e with e _
    subst e
    revert hc
    decide)]
  dsimp only
  rw [decide_eq_false (show ¬ ((c.toNat : Int) = 45) by omega)]
  simp only [Bool.false_eq_true, ↓reduceIte]
  rw [hm]
  rfl
theorem mag_int {u : Nat} (h : u < 9007199254740992) : magM (utoa u) = some (FloatKind.f64.nearest ((u : Nat) : Int), true) := by
  obtain ⟨c, l, hcl, hc⟩ := utoa_head u
  have hr := runD_utoa (u := u) (Nat.lt_trans h (by decide)) (w := []) (by rintro c r z; cases z)
  rw [List.append_nil] at hr
  have hlen : (utoa u).length ≤ 16 := utoa_lenk (by decide) (Nat.lt_of_lt_of_le h (by decide))
  have hpos : (utoa u).length ≠ 0 := fun z => utoa_ne u (List.eq_nil_of_length_eq_zero z)
  unfold magM
  rw [if_neg (by
    rw [hcl]
    intro e
    injection e with e _
    subst e
    revert hc
    unfold isD
    decide)]
  dsimp only
  rw [hr]
  dsimp only
  rw [if_neg (by omega), decide_eq_true (by omega)]
theorem mag_p {m' k : Nat} (hm : m' < 9007199254740992) (hk : k < 10000) (down : Bool) : magM (utoa m' ++ 112 :: ((if down = true then [45] else []) ++ utoa k)) = (ldexpM (FloatKind.f64.nearest ((m' : Nat) : Int)) (if down = true then -(k : Int) else k)).map fun x => (x, true) := by
  obtain ⟨c, l, hcl, hc⟩ := utoa_head m'
  obtain ⟨d, l2, hdl, hd⟩ := utoa_head k
  have hr := runD_utoa (u := m') (Nat.lt_trans hm (by decide)) (w := 112 :: ((if down = true then [45] else []) ++ utoa k)) (by rintro c r z; injection z with z _; subst z; unfold isD; decide)
  have hq := runD_utoa (u := k) (Nat.lt_trans hk (by decide)) (w := []) (by rintro c r z; cases z)
  rw [List.append_nil] at hq
  have hlen : (utoa m').length ≤ 16 := utoa_lenk (by decide) (Nat.lt_of_lt_of_le hm (by decide))
  have hlen2 : (utoa k).length ≤ 4 := utoa_lenk (by decide) (by exact hk)
  have hpos : (utoa m').length ≠ 0 := fun z => utoa_ne m' (List.eq_nil_of_length_eq_zero z)
  have hpos2 : (utoa k).length ≠ 0 := fun z => utoa_ne k (List.eq_nil_of_length_eq_zero z)
  unfold magM
  rw [if_neg (by
    rw [hcl]
    intro e
    injection e with e _
    subst e
    revert hc
    unfold isD
    decide)]
  dsimp only
  rw [hr]
  dsimp only
  rw [if_neg (by omega), if_neg (by decide), if_pos (by decide)]
  cases down with
  | true =>
    simp only [↓reduceIte, List.cons_append, List.nil_append]
    have e45 : decide (((45 : UInt8).toNat : Int) = 45) = true := by decide
    rw [e45]
    simp only [↓reduceIte, List.drop_succ_cons, List.drop_zero]
    rw [hq]
    dsimp only
    rw [if_neg (by rintro (z | z | z | z); · omega
                   · omega
                   · exact z rfl
                   · omega)]
  | false =>
    simp only [Bool.false_eq_true, ↓reduceIte, List.nil_append]
    rw [hdl] at hq hlen2 hpos2 ⊢
    dsimp only
    have hd45 : ¬ ((d.toNat : Int) = 45) := by unfold isD at hd; omega
    simp only [hd45, decide_false, Bool.false_eq_true, ↓reduceIte]
    rw [hq]
    dsimp only
    rw [if_neg (by rintro (z | z | z | z); · omega
                   · omega
                   · exact z rfl
                   · omega)]
theorem num_head_isD {t : List UInt8} (ht : NumT t) : ∃ c l, t = c :: l ∧ isD c := by
  obtain ⟨c, l, h1, h2⟩ := num_head ht
  have := digit_rng h2
  exact ⟨c, l, h1, by unfold isD; omega⟩
theorem fmtTail_eq {x y : Nat} (hx : x < 9218868437227405312) (h1 : y % 4503599627370496 = x % 4503599627370496) (h2 : y / 4503599627370496 % 2048 = x / 4503599627370496) (pre : List UInt8) : fmtTail pre y = fmtEnd pre (mg x) (pl x) := by
  unfold fmtTail mg pl
  rw [h1, h2]
  by_cases hb : x < 4503599627370496
  · rw [if_pos (by omega), if_pos hb, if_pos hb, Nat.mod_eq_of_lt hb]
  · rw [if_neg (by omega), if_neg hb, if_neg hb, Nat.add_comm]
    congr 1
    omega
theorem fmt_core {x : Nat} (hx : x < 9218868437227405312) : ∃ t, NumT t ∧ t.length ≤ 22 ∧ parseM t = some (x, 0) ∧ ∀ (pre : List UInt8) (y : Nat), y % 4503599627370496 = x % 4503599627370496 → y / 4503599627370496 % 2048 = x / 4503599627370496 → fmtRest pre x y = some (pre ++ t) := by
  have hnan : isNan (FloatKind.f64.decode x) = false := by rw [read_fin hx]; rfl
  by_cases h0 : x = 0
  · subst h0
    refine ⟨[48], .int ⟨by simp, fun c hc => by rw [List.mem_singleton] at hc; subst hc; decide⟩, by decide, by kernel_rfl, fun pre y _ _ => ?_⟩
    unfold fmtRest
    rw [if_pos (by kernel_rfl), if_neg (by rw [hnan]; decide), if_pos (by kernel_rfl), toInt_fl hx, show flN 0 = 0 from by kernel_rfl]
    rfl
  by_cases c1 : ford x two53 = some .lt ∧ ford x (floorF x) = some .eq
  · have hl := fl_lt hx c1.1
    have hv := fl_val hx h0 c1.1 c1.2
    obtain ⟨c, l, hcl, hc⟩ := utoa_head (flN x)
    have hlen : (utoa (flN x)).length ≤ 16 := utoa_lenk (by decide) (Nat.lt_of_lt_of_le hl (by decide))
    refine ⟨utoa (flN x), .int (utoa_dgL _), by omega, ?_, fun pre y _ _ => ?_⟩
    · refine parse_mag hcl hc (by omega) ?_
      rw [mag_int hl, near_of_vl hx hv]
    · unfold fmtRest
      rw [if_pos c1.1, if_neg (by rw [hnan]; decide), if_pos c1.2, toInt_fl hx]
      dsimp only
      rw [if_pos (by omega), Int.toNat_natCast]
  · have hm0 := mg_ne h0
    obtain ⟨z, hz⟩ : ∃ z, z = tz 53 (mg x) 0 := ⟨_, rfl⟩
    obtain ⟨m', hm'⟩ : ∃ m', m' = mg x / 2 ^ z := ⟨_, rfl⟩
    have hdv : 2 ^ z ∣ mg x := by rw [hz]; exact tz_dvd 53 (mg x) 0 ⟨mg x, by rw [Nat.pow_zero, Nat.one_mul]⟩
    have hz53 : z ≤ 53 := by rw [hz]; have := tz_le 53 (mg x) 0; omega
    have hmm : mg x = m' * 2 ^ z := by rw [hm', Nat.div_mul_cancel hdv]
    have hm0' : m' ≠ 0 := fun e => by rw [e, Nat.zero_mul] at hmm; exact hm0 hmm
    have hml : m' < 9007199254740992 := Nat.lt_of_le_of_lt (Nat.le_mul_of_pos_right m' (Nat.two_pow_pos z)) (hmm ▸ mg_lt x)
    have hp1 := pl_ge x
    have hp2 := pl_le hx
    have hk : (pl x + (z : Int)).natAbs < 10000 := by omega
    have hend : ∀ (pre : List UInt8) (y : Nat), y % 4503599627370496 = x % 4503599627370496 → y / 4503599627370496 % 2048 = x / 4503599627370496 → fmtRest pre x y = some (pre ++ (utoa m' ++ 112 :: ((if decide (pl x + z < 0) = true then [45] else []) ++ utoa (pl x + z).natAbs))) := by
      intro pre y h1 h2
      have e1 : fmtRest pre x y = fmtTail pre y := by
        unfold fmtRest
        by_cases ca : ford x two53 = some .lt
        · rw [if_pos ca, if_neg (by rw [hnan]; decide), if_neg (fun cb => c1 ⟨ca, cb⟩)]
        · rw [if_neg ca]
      rw [e1, fmtTail_eq hx h1 h2]
      unfold fmtEnd
      rw [if_neg hm0, ← hz, ← hm']
      congr 1
      by_cases hn : pl x + (z : Int) < 0
      · simp [hn]
      · simp [hn]
    have hlen : (utoa m').length ≤ 16 := utoa_lenk (by decide) (Nat.lt_of_lt_of_le hml (by decide))
    have hlen2 : (utoa (pl x + (z : Int)).natAbs).length ≤ 4 := utoa_lenk (by decide) (by exact hk)
    have hld := ldexp_ok hx hm0' hmm hz53
    have hmag := mag_p hml hk (decide (pl x + (z : Int) < 0))
    have hexp : (if decide (pl x + (z : Int) < 0) = true then -(((pl x + (z : Int)).natAbs : Nat) : Int) else (((pl x + (z : Int)).natAbs : Nat) : Int)) = pl x + z := by
      by_cases hn : pl x + (z : Int) < 0
      · rw [if_pos (decide_eq_true hn)]; omega
      · rw [if_neg (by rw [decide_eq_false hn]; decide)]; omega
    rw [hexp, hld] at hmag
    obtain ⟨t, ht⟩ : ∃ t, t = utoa m' ++ 112 :: ((if decide (pl x + (z : Int) < 0) = true then [45] else []) ++ utoa (pl x + (z : Int)).natAbs) := ⟨_, rfl⟩
    rw [← ht] at hmag hend
    have hnt : NumT t := by
      rw [ht]
      by_cases hn : pl x + (z : Int) < 0
      · rw [if_pos (decide_eq_true hn)]
        exact .neg (utoa_dgL _) (utoa_dgL _)
      · rw [if_neg (by rw [decide_eq_false hn]; decide)]
        exact .pos (utoa_dgL _) (utoa_dgL _)
    have hl22 : t.length ≤ 22 := by
      rw [ht]
      simp only [List.length_append, List.length_cons]
      have : (if decide (pl x + (z : Int) < 0) = true then [(45 : UInt8)] else []).length ≤ 1 := by split <;> simp
      omega
    obtain ⟨c, l, hcl, hc⟩ := num_head_isD hnt
    exact ⟨t, hnt, hl22, parse_mag hcl hc (by omega) hmag, hend⟩
theorem ford_neg_max {x : Nat} (hx : x < 9218868437227405312) : ford (9223372036854775808 + x) maxFin ≠ some .gt ∧ ford (9223372036854775808 + x) minFin ≠ some .lt ∧ ford (9223372036854775808 + x) (9223372036854775808 + x) = some .eq := by
  have hs : ∀ (m k : Nat), Ieee.signed true m k = -((m * 2 ^ k : Nat) : Int) := fun m k => by
    unfold Ieee.signed
    rw [if_pos rfl, shl_eq]
  have hmax : FloatKind.f64.decode maxFin = .number false (mg maxFin) (pl maxFin) := read_fin (by decide)
  have hmin : FloatKind.f64.decode minFin = .number true (mg maxFin) (pl maxFin) := by
    rw [show minFin = 9223372036854775808 + maxFin from by decide]
    exact read_neg (by decide)
  refine ⟨?_, ?_, ?_⟩
  · show (FloatKind.f64.decode (9223372036854775808 + x)).order (FloatKind.f64.decode maxFin) ≠ _
    rw [read_neg hx, hmax]
    unfold Ieee.Datum.order
    dsimp only
    rw [hs, sgn_f]
    generalize mg x * 2 ^ (pl x - min (pl x) (pl maxFin)).toNat = a
    generalize mg maxFin * 2 ^ (pl maxFin - min (pl x) (pl maxFin)).toNat = b
    intro e
    injection e with e
    revert e
    show (if (-(a : Int)) < (b : Int) then Ordering.lt else if (-(a : Int)) = (b : Int) then .eq else .gt) = .gt → False
    split
    · intro z; cases z
    · split
      · intro z; cases z
      · intro _; omega
  · show (FloatKind.f64.decode (9223372036854775808 + x)).order (FloatKind.f64.decode minFin) ≠ _
    rw [read_neg hx, hmin]
    unfold Ieee.Datum.order
    dsimp only
    rw [hs, hs]
    have hv := vl_max hx
    unfold vl at hv
    have h1 := pl_ge x
    have h2 := pl_le hx
    have e971 : pl maxFin = 971 := by decide
    rw [e971] at hv ⊢
    have hm : min (pl x) 971 = pl x := by omega
    rw [hm, show (pl x - pl x).toNat = 0 from by omega, Nat.pow_zero, Nat.mul_one]
    have hle : mg x ≤ mg maxFin * 2 ^ (971 - pl x).toNat := by
      have e : mg maxFin * 2 ^ (971 + 1074 : Int).toNat = mg maxFin * 2 ^ (971 - pl x).toNat * 2 ^ (pl x + 1074).toNat := by
        rw [Nat.mul_assoc, ← Nat.pow_add]
        congr 2
        omega
      rw [e] at hv
      exact Nat.le_of_mul_le_mul_right hv (Nat.two_pow_pos _)
    generalize mg maxFin * 2 ^ (971 - pl x).toNat = b at hle
    generalize mg x = a at hle
    intro e
    injection e with e
    revert e
    show (if (-(a : Int)) < (-(b : Int)) then Ordering.lt else if (-(a : Int)) = (-(b : Int)) then .eq else .gt) = .lt → False
    rw [if_neg (by omega)]
    split
    · intro z; cases z
    · intro z; cases z
  · show (FloatKind.f64.decode (9223372036854775808 + x)).order (FloatKind.f64.decode (9223372036854775808 + x)) = _
    rw [read_neg hx]
    unfold Ieee.Datum.order
    dsimp only
    congr 1
    generalize Ieee.signed true (mg x) (pl x - min (pl x) (pl x)).toNat = a
    show (if a < a then Ordering.lt else if a = a then .eq else .gt) = .eq
    rw [if_neg (by omega), if_pos rfl]
theorem negF {x : Nat} (hx : x < 9218868437227405312) : Op.negFloat .f64 x = 9223372036854775808 + x ∧ Op.negFloat .f64 (9223372036854775808 + x) = x := by
  have e0 : ∀ n, Op.negFloat .f64 n = n ^^^ 2 ^ 63 := fun n => rfl
  have e1 : 9223372036854775808 + x = x ^^^ 2 ^ 63 := by
    have h := Nat.two_pow_add_eq_or_of_lt (i := 63) (b := x) (by omega) 1
    rw [Nat.mul_one] at h
    rw [show (9223372036854775808 : Nat) = 2 ^ 63 from by decide, h]
    apply Nat.eq_of_testBit_eq
    intro i
    rw [Nat.testBit_or, Nat.testBit_xor, Nat.testBit_two_pow]
    by_cases hi : 63 = i
    · subst hi
      rw [Nat.testBit_lt_two_pow (by omega)]
      rfl
    · rw [decide_eq_false hi]
      simp
  rw [e0, e0]
  refine ⟨e1.symm, ?_⟩
  rw [e1, Nat.xor_assoc, Nat.xor_self, Nat.xor_zero]
/-- All that is wanted of a number's text. -/
theorem fmt_all {x : Nat} (hx : x < 9218868437227405312) : ∃ t, formatM x = some t ∧ NumT t ∧ t.length ≤ 22 ∧ parseM t = some (x, 0) ∧ formatM (negM x) = some ([45] ++ t) := by
  obtain ⟨t, h1, h2, h3, h4⟩ := fmt_core hx
  obtain ⟨n1, n2, n3⟩ := ford_neg_max hx
  obtain ⟨f1, f2⟩ := negF hx
  refine ⟨t, ?_, h1, h2, h3, ?_⟩
  · unfold formatM
    have k1 : ¬ ford x maxFin = some .gt := by
      rw [ford_vl hx (by decide)]
      intro e
      injection e with e
      rw [cmp_gt] at e
      exact Nat.lt_irrefl _ (Nat.lt_of_lt_of_le e (vl_max hx))
    have k2 : ¬ ford x minFin = some .lt := by
      show ¬ (FloatKind.f64.decode x).order (FloatKind.f64.decode minFin) = _
      rw [read_fin hx, show minFin = 9223372036854775808 + maxFin from by decide, read_neg (r := maxFin) (by decide)]
      unfold Ieee.Datum.order
      dsimp only
      rw [sgn_f]
      have hs : ∀ (m k : Nat), Ieee.signed true m k = -((m * 2 ^ k : Nat) : Int) := fun m k => by
        unfold Ieee.signed
        rw [if_pos rfl, shl_eq]
      rw [hs]
      generalize mg x * 2 ^ (pl x - min (pl x) (pl maxFin)).toNat = a
      generalize mg maxFin * 2 ^ (pl maxFin - min (pl x) (pl maxFin)).toNat = b
      intro e
      injection e with e
      revert e
      show (if ((a : Int)) < (-(b : Int)) then Ordering.lt else if ((a : Int)) = (-(b : Int)) then .eq else .gt) = .lt → False
      rw [if_neg (by omega)]
      split
      · intro z; cases z
      · intro z; cases z
    rw [if_neg (by rw [ford_self hx]; decide), if_neg k1, if_neg k2, if_neg (by omega), h4 [] x rfl (by omega)]
    rfl
  · have e : negM x = 9223372036854775808 + x := by
      unfold negM bitsM
      rw [f1, if_neg (by rw [n3]; decide)]
    rw [e]
    unfold formatM
    rw [if_neg (by rw [n3]; decide), if_neg n1, if_neg n2, if_pos (by omega), f2, h4 [45] _ (by omega) (by omega)]
end Go.Wl
