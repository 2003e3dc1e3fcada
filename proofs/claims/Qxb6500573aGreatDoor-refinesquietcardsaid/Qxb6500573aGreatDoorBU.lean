/- Plain: a number's text: what it looks like, and that it is read back. -/
import Derived.Test.Qxb6500573aGreatDoorBT
namespace Go.Wl
open Go Go.Sl Go.Proofs
set_option linter.unusedVariables false
def fD (m : Nat) (c : UInt8) : Nat := (m * 10 + (c.toNat - 48)) % 18446744073709551616
def isD (c : UInt8) : Prop := 48 ≤ c.toNat ∧ c.toNat ≤ 57
theorem pw2_le {a b n : Nat} (h : a ≤ b) (h0 : n ≠ 0) : 2 ^ a ≤ n * 2 ^ b := Nat.le_trans (Nat.pow_le_pow_right (by decide) h) (Nat.le_mul_of_pos_left _ (Nat.pos_iff_ne_zero.2 h0))
theorem runD_app : ∀ (a w : List UInt8) (m : Nat), (∀ c, c ∈ a → isD c) → runD (a ++ w) m = ((runD w (a.foldl fD m)).1, (runD w (a.foldl fD m)).2.1 + a.length, (runD w (a.foldl fD m)).2.2)
  | [], w, m, _ => rfl
  | c :: a, w, m, h => by
    have hc : 48 ≤ c.toNat ∧ c.toNat ≤ 57 := h c List.mem_cons_self
    have ih := runD_app a w (fD m c) (fun d hd => h d (List.mem_cons_of_mem _ hd))
    show (if 48 ≤ c.toNat ∧ c.toNat ≤ 57 then ((runD (a ++ w) (fD m c)).1, (runD (a ++ w) (fD m c)).2.1 + 1, (runD (a ++ w) (fD m c)).2.2) else (m, 0, c :: (a ++ w))) = _
    rw [if_pos hc, ih]
    rfl
theorem runD_stop {w : List UInt8} (m : Nat) (h : ∀ c r, w = c :: r → ¬ isD c) : runD w m = (m, 0, w) := by
  cases w with
  | nil => rfl
  | cons c r =>
    unfold runD
    rw [if_neg (show ¬ (48 ≤ c.toNat ∧ c.toNat ≤ 57) from h c r rfl)]
theorem digs_isD : ∀ (f u : Nat) (c : UInt8), c ∈ digs f u → isD c
  | 0, _, c, h => by cases h
  | f + 1, u, c, h => by
    unfold digs at h
    split at h
    · cases h
    · rcases List.mem_append.1 h with h | h
      · exact digs_isD f (u / 10) c h
      · rw [List.mem_singleton] at h
        subst h
        unfold isD
        rw [UInt8.toNat_ofNat']
        omega
theorem digs_val : ∀ (f u : Nat), u < 10 ^ f → u < 18446744073709551616 → (digs f u).foldl fD 0 = u
  | 0, u, h, _ => by
    rw [Nat.pow_zero] at h
    have : u = 0 := by omega
    subst this
    rfl
  | f + 1, u, h, h2 => by
    unfold digs
    split
    · rename_i h0
      subst h0
      rfl
    · rw [List.foldl_append, digs_val f (u / 10) (by rw [Nat.pow_succ] at h; omega) (by omega)]
      show (u / 10 * 10 + ((UInt8.ofNat (48 + u % 10)).toNat - 48)) % 18446744073709551616 = u
      rw [UInt8.toNat_ofNat']
      omega
theorem utoa_isD (u : Nat) (c : UInt8) (h : c ∈ utoa u) : isD c := by
  unfold utoa at h
  split at h
  · rw [List.mem_singleton] at h
    subst h
    unfold isD
    decide
  · exact digs_isD 20 u c h
theorem utoa_val {u : Nat} (h : u < 18446744073709551616) : (utoa u).foldl fD 0 = u := by
  unfold utoa
  split
  · rename_i h0
    subst h0
    rfl
  · exact digs_val 20 u (by have : (18446744073709551616 : Nat) < 10 ^ 20 := by decide
                            omega) h
theorem utoa_ne (u : Nat) : utoa u ≠ [] := by
  unfold utoa
  split
  · simp
  · rename_i h0
    show digs (19 + 1) u ≠ []
    unfold digs
    rw [if_neg h0]
    simp
theorem utoa_dgL (u : Nat) : dgL (utoa u) := ⟨utoa_ne u, fun c hc => by
  have := utoa_isD u c hc
  unfold digitM
  exact decide_eq_true (by unfold isD at this; omega)⟩
theorem tz_dvd : ∀ (f m t : Nat), 2 ^ t ∣ m → 2 ^ (tz f m t) ∣ m
  | 0, m, t, h => h
  | f + 1, m, t, h => by
    unfold tz
    split
    · rename_i hb
      refine tz_dvd f m (t + 1) ?_
      obtain ⟨k, rfl⟩ := h
      rw [Nat.mul_div_cancel_left _ (Nat.two_pow_pos t)] at hb
      obtain ⟨j, rfl⟩ : ∃ j, k = 2 * j := ⟨k / 2, by omega⟩
      exact ⟨j, by rw [Nat.pow_succ, Nat.mul_assoc]⟩
    · exact h
theorem tz_le : ∀ (f m t : Nat), tz f m t ≤ t + f
  | 0, m, t => Nat.le_refl _
  | f + 1, m, t => by
    unfold tz
    split
    · have := tz_le f m (t + 1); omega
    · omega
theorem and63 {f : Nat} (h : f < 9223372036854775808) : (bitI .andNot .u64 (f : Int) 9223372036854775808).toNat = f := by
  show (IntKind.u64.wrap ((BitVec.ofInt 64 (f : Int) &&& ~~~ BitVec.ofInt 64 9223372036854775808).toNat : Int)).toNat = f
  have e : (BitVec.ofInt 64 (f : Int) &&& ~~~ BitVec.ofInt 64 9223372036854775808).toNat = f := by
    rw [BitVec.ofInt_natCast, BitVec.toNat_and, BitVec.toNat_ofNat, Nat.mod_eq_of_lt (by omega)]
    have : (~~~ BitVec.ofInt 64 9223372036854775808).toNat = 2 ^ 63 - 1 := by decide
    rw [this, Nat.and_two_pow_sub_one_eq_mod]
    omega
  rw [e]
  have w : IntKind.u64.wrap (f : Int) = (f : Int) % 18446744073709551616 := by simp [IntKind.wrap, IntKind.bits, IntKind.signed]
  rw [w]
  omega
theorem andE {f : Nat} (h : f < 9223372036854775808) : bitI .andNot .u64 (f : Int) 9218868437227405312 = ((f % 4503599627370496 : Nat) : Int) := by
  show IntKind.u64.wrap ((BitVec.ofInt 64 (f : Int) &&& ~~~ BitVec.ofInt 64 9218868437227405312).toNat : Int) = _
  have e : (BitVec.ofInt 64 (f : Int) &&& ~~~ BitVec.ofInt 64 9218868437227405312).toNat = f % 4503599627370496 := by
    rw [BitVec.ofInt_natCast, BitVec.toNat_and, BitVec.toNat_ofNat, Nat.mod_eq_of_lt (by omega)]
    have m1 : (~~~ BitVec.ofInt 64 9218868437227405312).toNat = 2 ^ 63 ||| (2 ^ 52 - 1) := by decide
    rw [m1, Nat.and_or_distrib_left, Nat.and_two_pow_sub_one_eq_mod]
    have m2 : f &&& 2 ^ 63 = 0 := by
      apply Nat.eq_of_testBit_eq
      intro i
      rw [Nat.testBit_and, Nat.testBit_two_pow, Nat.zero_testBit]
      by_cases hi : 63 = i
      · subst hi
        rw [Nat.testBit_lt_two_pow (by omega)]
        rfl
      · rw [decide_eq_false hi, Bool.and_false]
    rw [m2, Nat.zero_or]
  rw [e]
  have w : ∀ k : Nat, IntKind.u64.wrap (k : Int) = (k : Int) % 18446744073709551616 := fun k => by simp [IntKind.wrap, IntKind.bits, IntKind.signed]
  rw [w]
  omega
theorem orE {f k : Nat} (h : f < 4503599627370496) (hk : k < 2048) : (bitI .or .u64 (f : Int) (((k * 4503599627370496 : Nat)) : Int)).toNat = k * 4503599627370496 + f := by
  show (IntKind.u64.wrap ((BitVec.ofInt 64 (f : Int) ||| BitVec.ofInt 64 ((k * 4503599627370496 : Nat) : Int)).toNat : Int)).toNat = _
  have e2 := Nat.two_pow_add_eq_or_of_lt (i := 52) (b := f) h k
  have e : (BitVec.ofInt 64 (f : Int) ||| BitVec.ofInt 64 ((k * 4503599627370496 : Nat) : Int)).toNat = k * 4503599627370496 + f := by
    rw [BitVec.ofInt_natCast, BitVec.ofInt_natCast, BitVec.toNat_or, BitVec.toNat_ofNat, BitVec.toNat_ofNat, Nat.mod_eq_of_lt (by omega), Nat.mod_eq_of_lt (by omega), Nat.or_comm, show k * 4503599627370496 = 2 ^ 52 * k from by omega, ← e2]
  rw [e]
  have w : ∀ k : Nat, IntKind.u64.wrap (k : Int) = (k : Int) % 18446744073709551616 := fun k => by simp [IntKind.wrap, IntKind.bits, IntKind.signed]
  rw [w]
  omega
/-- The product with a power of two. -/
theorem mul_near {x mm g : Nat} (hx : x < 9218868437227405312) (hm : mm < 9218868437227405312) (hg : g < 9218868437227405312) (i j : Nat) (hp : pl mm + pl g - pl x = (i : Int) - j) (hv : mg mm * mg g * 2 ^ i = mg x * 2 ^ j) : FloatKind.f64.format.mul mm g = some x := by
  show ((FloatKind.f64.decode mm).product (FloatKind.f64.decode g)).map Ieee.double.write = _
  rw [read_fin hm, read_fin hg]
  unfold Ieee.Datum.product
  show some (Ieee.double.nearest (false ^^ false) _ _) = _
  rw [show (false ^^ false) = false from rfl, near_exact hx i j hp hv]
theorem rg_ne0 {n : Nat} (h0 : n ≠ 0) (h : n < 9007199254740992) : ¬ ford (rgN n) 0 = some .eq := by
  obtain ⟨a1, _⟩ := rgN_parts h0 h
  rw [ford_vl a1 (by decide)]
  intro e
  injection e with e
  rw [cmp_eq, vl_rgN h0 h] at e
  have e0 : vl 0 = 0 := by unfold vl; rw [show mg 0 = 0 from by decide, Nat.zero_mul]
  rw [e0] at e
  exact Nat.mul_ne_zero h0 (Nat.pos_iff_ne_zero.1 (Nat.two_pow_pos _)) e
theorem rg_max {n : Nat} (h0 : n ≠ 0) (h : n < 9007199254740992) : ¬ (ford (rgN n) maxFin = some .gt ∨ ford (rgN n) (rgN n) ≠ some .eq) := by
  obtain ⟨a1, _⟩ := rgN_parts h0 h
  rintro (e | e)
  · rw [ford_vl a1 (by decide)] at e
    injection e with e
    rw [cmp_gt] at e
    exact Nat.lt_irrefl _ (Nat.lt_of_lt_of_le e (vl_max a1))
  · exact e (ford_self a1)
theorem rg_min {n : Nat} (h0 : n ≠ 0) (h : n < 9007199254740992) : ¬ ford (rgN n) 4503599627370496 = some .lt := by
  obtain ⟨a1, _⟩ := rgN_parts h0 h
  rw [ford_vl a1 (by decide)]
  intro e
  injection e with e
  rw [cmp_lt] at e
  have e1 : vl 4503599627370496 = 2 ^ 52 := by
    unfold vl
    rw [show mg 4503599627370496 = 4503599627370496 from by decide, show (pl 4503599627370496 + 1074).toNat = 0 from by decide]
  rw [e1, vl_rgN h0 h] at e
  have e2 : 2 ^ 52 ≤ n * 2 ^ 1074 := pw2_le (a := 52) (b := 1074) (n := n) (by decide) h0
  exact Nat.lt_irrefl _ (Nat.lt_of_lt_of_le e e2)
theorem ar1 {k M : Nat} (h1 : 4503599627370496 ≤ M) (h2 : M < 9007199254740992) (hk : k ≤ 2046) : k * 4503599627370496 + (M - 4503599627370496) < 9218868437227405312 := by omega
theorem ar2 {p q e1 e2 : Int} {z L : Nat} (h : p + e2 = e1 - 52) (h' : e1 = q + z + L) : p + (e2 - 52) - q = ((z + L : Nat) : Int) - ((104 : Nat) : Int) := by omega
theorem ar3 {q e1 : Int} {z L lx : Nat} (hp1 : -1074 ≤ q) (hp2 : q ≤ 971) (hl : lx = L + z) (h : lx < 53) (he : e1 = q + z + (((L + 1023 : Nat) : Int) - 1023)) : -1074 ≤ e1 ∧ e1 ≤ 1023 ∧ e1 = q + z + L := by omega
theorem ar4 {L : Nat} (h : L ≤ 52) : (L + 1023) % 2048 = L + 1023 := by omega
theorem ar5 {z L : Nat} (h : L ≤ 52) : 52 - L + (52 + (z + L)) = z + 104 := by omega
theorem ar6 {e2 : Int} {k : Nat} (he2 : -1022 ≤ e2 ∧ e2 ≤ 1023) (hk : e2 + 1023 = k) : k ≤ 2046 ∧ 1 ≤ k := by omega
theorem ar7 {k M : Nat} (h1 : 4503599627370496 ≤ M) (h2 : M < 9007199254740992) (hk : 1 ≤ k) : ¬ k * 4503599627370496 + (M - 4503599627370496) < 4503599627370496 ∧ (k * 4503599627370496 + (M - 4503599627370496)) / 4503599627370496 = k ∧ (k * 4503599627370496 + (M - 4503599627370496)) % 4503599627370496 = M - 4503599627370496 ∧ 4503599627370496 + (M - 4503599627370496) = M := by omega
theorem ar8 {e2 : Int} {k : Nat} (hk : e2 + 1023 = k) (h : 1 ≤ k) : -1074 + ((k - 1 : Nat) : Int) = e2 - 52 := by omega
theorem ar9 (k : Nat) : ((k : Nat) : Int) * 4503599627370496 = ((k * 4503599627370496 : Nat) : Int) := by omega
theorem ld_key {x m' z : Nat} (hx : x < 9218868437227405312) (h0 : m' ≠ 0) (hlt : m' < 9007199254740992) (hm : mg x = m' * 2 ^ z) (e1 : Int) (he1 : e1 = pl x + z + m'.log2) (mm : Nat) (e2 : Int) (hmm : mm < 9218868437227405312) (hmg : mg mm = 4503599627370496) (he2 : -1022 ≤ e2 ∧ e2 ≤ 1023) (hpl : pl mm + e2 = e1 - 52) :
    FloatKind.f64.format.mul mm (bitI .or .u64 (((rgN m' % 4503599627370496 : Nat)) : Int) ((e2 + 1023) * 4503599627370496)).toNat = some x := by
  obtain ⟨a1, a2, a3, a4, a5⟩ := rgN_parts h0 hlt
  obtain ⟨n1, n2⟩ := nrm h0 hlt
  have hl := log_lt h0 hlt
  have hfr : rgN m' % 4503599627370496 < 4503599627370496 := Nat.mod_lt _ (by decide)
  obtain ⟨k, hk⟩ : ∃ k : Nat, e2 + 1023 = k := ⟨(e2 + 1023).toNat, (Int.toNat_of_nonneg (by omega)).symm⟩
  obtain ⟨M, hM⟩ : ∃ M, M = m' * 2 ^ (52 - m'.log2) := ⟨_, rfl⟩
  rw [← hM] at n1 n2 a3
  obtain ⟨hk1, hk2⟩ := ar6 he2 hk
  rw [hk, ar9 k, orE hfr (Nat.lt_of_le_of_lt hk1 (by decide)), a3]
  obtain ⟨hg1, hgd, hgm, hgs⟩ := ar7 n1 n2 hk2
  have hmgg : mg (k * 4503599627370496 + (M - 4503599627370496)) = M := by
    unfold mg
    rw [if_neg hg1, hgm, hgs]
  have hplg : pl (k * 4503599627370496 + (M - 4503599627370496)) = e2 - 52 := by
    unfold pl
    rw [if_neg hg1, hgd]
    exact ar8 hk hk2
  refine mul_near hx hmm (ar1 n1 n2 hk1) (z + m'.log2) 104 (by rw [hplg]; exact ar2 hpl he1) ?_
  rw [hmgg, hmg, hm, hM]
  have q : (4503599627370496 : Nat) = 2 ^ 52 := by decide
  rw [q, Nat.mul_comm (2 ^ 52), Nat.mul_assoc, Nat.mul_assoc, Nat.mul_assoc, ← Nat.pow_add, ← Nat.pow_add, ← Nat.pow_add, ar5 hl]
/-- ldexp gives back the number. -/
theorem ldexp_ok {x m' z : Nat} (hx : x < 9218868437227405312) (h0 : m' ≠ 0) (hm : mg x = m' * 2 ^ z) (hz : z ≤ 53) : ldexpM (FloatKind.f64.nearest (m' : Int)) (pl x + z) = some x := by
  have hlt : m' < 9007199254740992 := Nat.lt_of_le_of_lt (Nat.le_mul_of_pos_right m' (Nat.two_pow_pos z)) (hm ▸ mg_lt x)
  rw [near_nat h0 hlt]
  obtain ⟨a1, a2, _⟩ := rgN_parts h0 hlt
  have hl := log_lt h0 hlt
  have hp1 := pl_ge x
  have hp2 := pl_le hx
  have hlogx : (mg x).log2 = m'.log2 + z := by rw [hm, log2_mul h0]
  have hmx : mg x ≠ 0 := by rw [hm]; exact Nat.mul_ne_zero h0 (Nat.pos_iff_ne_zero.1 (Nat.two_pow_pos z))
  have hlx : (mg x).log2 < 53 := (Nat.log2_lt hmx).2 (mg_lt x)
  have k1 := rg_ne0 h0 hlt
  have k2 := rg_max h0 hlt
  have k3 := rg_min h0 hlt
  have e63 := and63 (f := rgN m') (Nat.lt_trans a1 (by decide))
  have eE := andE (f := rgN m') (Nat.lt_trans a1 (by decide))
  have key := ld_key hx h0 hlt hm
  obtain ⟨e1, he1⟩ : ∃ e1 : Int, e1 = pl x + z + (((m'.log2 + 1023 : Nat) : Int) - 1023) := ⟨_, rfl⟩
  obtain ⟨hlow, hup, he1'⟩ := ar3 hp1 hp2 hlogx hlx he1
  unfold ldexpM
  rw [if_neg (Nat.not_le.2 (Nat.lt_trans a1 (by decide))), if_neg k1, e63, if_neg k2, if_neg k3]
  dsimp only
  have e52 : rgN m' / 2 ^ 52 % 2048 = m'.log2 + 1023 := by
    rw [show (2 : Nat) ^ 52 = 4503599627370496 from by decide, a2]
    exact ar4 hl
  rw [e52, eE, ← he1]
  have hr1 : ¬ e1 < -1075 := by
    clear key he1 he1' e52 eE e63 k1 k2 k3
    omega
  have hr2 : ¬ 1023 < e1 := by
    clear key he1 he1' e52 eE e63 k1 k2 k3
    omega
  rw [if_neg hr1, if_neg hr2]
  by_cases hs : e1 < -1022
  · rw [if_pos hs, if_pos hs]
    refine key e1 he1' 4368491638549381120 (e1 + 53) (by decide) (by decide) ?_ ?_
    · clear key he1 he1' e52 eE e63 k1 k2 k3
      omega
    · rw [show pl 4368491638549381120 = -105 from by decide]
      clear key he1 he1' e52 eE e63 k1 k2 k3
      omega
  · rw [if_neg hs, if_neg hs]
    refine key e1 he1' 4607182418800017408 e1 (by decide) (by decide) ?_ ?_
    · clear key he1 he1' e52 eE e63 k1 k2 k3
      omega
    · rw [show pl 4607182418800017408 = -52 from by decide]
      clear key he1 he1' e52 eE e63 k1 k2 k3
      omega
end Go.Wl
