/- Walks: package num, Format (made by program out of short notes) -/
import Derived.Test.Qxb6500573aGreatDoorWNumC
namespace Go.Sl
open Go Go.Wl Go.Proofs
set_option maxRecDepth 100000
set_option linter.unusedVariables false
set_option linter.unusedSimpArgs false
theorem bit_clear (x : Nat) (hx : x < 18446744073709551616) : bitI .and .u64 (x : Int) (bitI .xor .u64 (if IntKind.u64.signed then -1 else IntKind.u64.max) ((x / 4503599627370496 * 4503599627370496 : Nat) : Int)) = ((x % 4503599627370496 : Nat) : Int) := by
  have e1 : bitI .xor .u64 (if IntKind.u64.signed then -1 else IntKind.u64.max) ((x / 4503599627370496 * 4503599627370496 : Nat) : Int) = ((18446744073709551615 - x / 4503599627370496 * 4503599627370496 : Nat) : Int) := by
    show IntKind.u64.wrap ((BitVec.ofInt 64 (18446744073709551615 : Int) ^^^ BitVec.ofInt 64 _).toNat : Int) = _
    rw [ofInt_nat, show BitVec.ofInt 64 (18446744073709551615 : Int) = BitVec.allOnes 64 by decide, BitVec.allOnes_xor, BitVec.toNat_not, BitVec.toNat_ofNat, Nat.mod_eq_of_lt (show x / 4503599627370496 * 4503599627370496 < 2 ^ 64 by omega)]
    exact u64n (by omega)
  rw [e1]
  show IntKind.u64.wrap ((BitVec.ofInt 64 (x : Int) &&& BitVec.ofInt 64 _).toNat : Int) = _
  have e2 : x &&& (18446744073709551615 - x / 4503599627370496 * 4503599627370496) = x % 4503599627370496 := by
    apply Nat.eq_of_testBit_eq
    intro i
    rw [Nat.testBit_and, show (4503599627370496 : Nat) = 2 ^ 52 by decide, show (18446744073709551615 : Nat) = 2 ^ 64 - 1 by decide, Nat.testBit_mod_two_pow]
    have h3 : 2 ^ 64 - 1 - x / 2 ^ 52 * 2 ^ 52 = 2 ^ 64 - (x / 2 ^ 52 * 2 ^ 52 + 1) := by omega
    rw [h3, Nat.testBit_two_pow_sub_succ (by omega), Nat.testBit_mul_two_pow, Nat.testBit_div_two_pow]
    by_cases hi : i < 52
    · have h4 : ¬ 52 ≤ i := by omega
      have h5 : i < 64 := by omega
      simp [hi, h4, h5]
    · have h4 : 52 ≤ i := by omega
      simp only [hi, h4, decide_true, decide_false, Bool.false_and, Bool.true_and, show i - 52 + 52 = i by omega, show 52 + (i - 52) = i by omega]
      cases x.testBit i <;> simp
  rw [ofInt_nat, ofInt_nat, BitVec.toNat_and, BitVec.toNat_ofNat, BitVec.toNat_ofNat, Nat.mod_eq_of_lt (show x < 2 ^ 64 by omega), Nat.mod_eq_of_lt (show 18446744073709551615 - x / 4503599627370496 * 4503599627370496 < 2 ^ 64 by omega), e2]
  exact u64n (by omega)
theorem bit_and2047u (a : Nat) (h : a < 18446744073709551616) : bitI .and .u64 (a : Int) 2047 = ((a % 2048 : Nat) : Int) := by
  have e : BitVec.ofInt 64 (2047 : Int) = BitVec.ofNat 64 2047 := by decide
  show IntKind.u64.wrap ((BitVec.ofInt 64 (a : Int) &&& BitVec.ofInt 64 2047).toNat : Int) = _
  rw [e, ofInt_nat, BitVec.toNat_and, BitVec.toNat_ofNat, BitVec.toNat_ofNat, Nat.mod_eq_of_lt (show a < 2 ^ 64 by omega), show (2047 % 2 ^ 64) = 2 ^ 11 - 1 by decide, Nat.and_two_pow_sub_one_eq_mod]
  exact u64n (by omega)
theorem bit_or52 (a : Nat) (h : a < 4503599627370496) : bitI .or .u64 (a : Int) 4503599627370496 = ((a + 4503599627370496 : Nat) : Int) := by
  have e : BitVec.ofInt 64 (4503599627370496 : Int) = BitVec.ofNat 64 4503599627370496 := by decide
  show IntKind.u64.wrap ((BitVec.ofInt 64 (a : Int) ||| BitVec.ofInt 64 4503599627370496).toNat : Int) = _
  rw [e, ofInt_nat, BitVec.toNat_or, BitVec.toNat_ofNat, BitVec.toNat_ofNat, Nat.mod_eq_of_lt (show a < 2 ^ 64 by omega), show (4503599627370496 % 2 ^ 64) = 2 ^ 52 by decide, Nat.or_comm]
  have e2 := Nat.two_pow_add_eq_or_of_lt (i := 52) (b := a) (by omega) 1
  rw [Nat.mul_one] at e2
  rw [← e2, u64n (by omega)]; omega
theorem bit_pick (m t : Nat) (hm : m < 18446744073709551616) (ht : t < 64) : bitI .and .u64 (m : Int) ((2 ^ t : Nat) : Int) = ((m / 2 ^ t % 2 * 2 ^ t : Nat) : Int) := by
  have h2 : 2 ^ t < 2 ^ 64 := Nat.pow_lt_pow_right (by decide) ht
  show IntKind.u64.wrap ((BitVec.ofInt 64 (m : Int) &&& BitVec.ofInt 64 _).toNat : Int) = _
  have e : m &&& 2 ^ t = m / 2 ^ t % 2 * 2 ^ t := by
    apply Nat.eq_of_testBit_eq
    intro i
    have e1 := Nat.testBit_mod_two_pow (m / 2 ^ t) 1 (i - t)
    rw [Nat.pow_one] at e1
    rw [Nat.testBit_and, Nat.testBit_two_pow, Nat.testBit_mul_two_pow, e1, Nat.testBit_div_two_pow]
    by_cases hi : t = i
    · subst hi; simp
    · by_cases h3 : t ≤ i
      · have h4 : ¬ i - t < 1 := by omega
        simp [hi, h4]
      · simp [hi, h3]
  rw [ofInt_nat, ofInt_nat, BitVec.toNat_and, BitVec.toNat_ofNat, BitVec.toNat_ofNat, Nat.mod_eq_of_lt (show m < 2 ^ 64 by omega), Nat.mod_eq_of_lt h2, e, u64n]
  have : m / 2 ^ t % 2 < 2 := Nat.mod_lt _ (by decide)
  have h3 : m / 2 ^ t % 2 * 2 ^ t ≤ 1 * 2 ^ t := Nat.mul_le_mul_right _ (by omega)
  omega
theorem bytesV_setc {l s : List UInt8} {i : Nat} {j : Int} {c : UInt8} {v : Value} (hv : v = .int .u8 (c.toNat : Int)) (hj : j = i + s.length) (h : i + s.length < l.length) : (bytesV (wrB l i s)).set (0 + j.toNat * 1) v = bytesV (wrB l i (s ++ [c])) := by
  subst hv; exact bytesV_setw hj h
theorem tz_step {f m t : Nat} (h : m / 2 ^ t % 2 = 0) : tz (f + 1) m t = tz f m (t + 1) := by simp [tz, h]
theorem tz_stop {f m t : Nat} (h : m / 2 ^ t % 2 ≠ 0) : tz f m t = t := by cases f <;> simp [tz, h]
theorem mod_step {m t : Nat} (h : m % 2 ^ t = 0) (h2 : m / 2 ^ t % 2 = 0) : m % 2 ^ (t + 1) = 0 := by
  rw [Nat.pow_succ, Nat.mod_mul, h, h2]; rfl

theorem whole_of {a : Nat} {pre t : List UInt8} (h : (match (FloatKind.f64.decode a).toInt .zero with
       | some i => if 0 ≤ i ∧ i < 9007199254740992 then some (pre ++ utoa i.toNat) else none
       | none => none) = some t) : ∃ i, (FloatKind.f64.decode a).toInt .zero = some i ∧ (0 ≤ i ∧ i < 9007199254740992) ∧ t = pre ++ utoa i.toNat := by
  cases hd : (FloatKind.f64.decode a).toInt .zero with
  | none => rw [hd] at h; cases h
  | some i =>
    rw [hd] at h
    dsimp only at h
    split at h
    · rename_i hr; exact ⟨i, rfl, hr, (Option.some.inj h).symm⟩
    · cases h
theorem pow_step {t : Nat} (h : t ≤ 52) : IntKind.u64.wrap (((2 ^ t : Nat) : Int) * 2 ^ (min (1 : Int).toNat IntKind.u64.bits)) = ((2 ^ (t + 1) : Nat) : Int) := by
  have hp : 2 ^ t ≤ 2 ^ 52 := Nat.pow_le_pow_right (by decide) h
  have hz : ∀ z : Nat, z ≤ 4503599627370496 → IntKind.u64.wrap ((z : Int) * 2) = ((z * 2 : Nat) : Int) := fun z hz => by rw [IntWalk.u64_in _ (by omega)]; simp
  rw [Nat.pow_succ]
  exact hz _ (by simpa using hp)
theorem zero_of {m t : Nat} (h : ((m / 2 ^ t % 2 * 2 ^ t : Nat) : Int) = 0) : m / 2 ^ t % 2 = 0 := by
  have h1 : m / 2 ^ t % 2 * 2 ^ t = 0 := by omega
  rcases Nat.mul_eq_zero.1 h1 with h2 | h2
  · exact h2
  · exact absurd h2 (Nat.ne_of_gt (Nat.pow_pos (by decide)))
theorem num_Format (b nb : Nat) (buf : List UInt8) (hb : buf.length = 24) (x : Nat) (hx : x < 18446744073709551616) (t : List UInt8) (h : formatM x = some t) : Spec Tryz.prog 16 [.pointer (some ⟨b, 0, none⟩), .int .u64 x] [blk b 71 [.slice (some ⟨nb, 0, none⟩) 24 24], blk nb 5 (bytesV buf)] (Ret fun v H => v = S t ∧ ∃ buf', buf'.length = 24 ∧ H = [blk b 71 [.slice (some ⟨nb, 0, none⟩) 24 24], blk nb 5 (bytesV buf')]) := by
  unfold formatM at h
  refine Spec_enter Tryz.func16 rfl Tryz.ntmps16 rfl ?_
  show SP _ _ _ _ _ [(0, _), (1, _)] _
  refine SP_seq ?_
  refine SP_region ?_
  refine SPL_y (y_assign rfl) rfl ?_
  refine SPL_nil ?_
  refine thenP_n ?_
  refine SP_seq ?_
  refine SP_region ?_
  refine SPL_y (y_move rfl) rfl ?_
  refine SPL_y (y_ext1 rfl (by first | exact ext34n _ | exact ext34 _)) rfl ?_
  refine SPL_y (y_assign rfl) rfl ?_
  refine SPL_nil ?_
  refine thenP_n ?_
  refine SP_seq ?_
  refine SP_seq ?_
  refine SP_region ?_
  refine SPL_y (y_move rfl) rfl ?_
  refine SPL_y (y_move rfl) rfl ?_
  refine SPL_if (y_fneq rfl rfl) rfl ?_ ?_
  · intro h2_2
    refine SPL_nil ?_
    refine thenP_n ?_
    refine SP_cond_t rfl ?_
    refine SP_seq ?_
    refine SP_region ?_
    refine SPL_y (y_assign rfl) rfl ?_
    refine SPL_nil ?_
    refine thenP_n ?_
    refine SP_ret ?_
    refine thenP_ret (bodyP_ret (H' := [blk b 71 [.slice (some ⟨nb, 0, none⟩) 24 24], blk nb 5 (bytesV buf)]) (Res1 rfl rfl) (by repeat (first | exact Part.nil _ | (apply Part.cons; (first | exact P0 | exact P1 | exact P2 | exact P3 | exact P4 | exact P5 | exact P6 | exact P7 | exact P8 | exact P9 | exact P10 | exact P11 | exact P12 | exact P13 | exact P14 | exact P15 | exact P16 | exact P17 | exact P18 | exact P19 | exact P20 | exact P21 | exact P22 | exact P23)) | (apply Part.flat; simp only [List.cons_append, List.nil_append]) | (apply Part.nilc))) ?_)
    rw [if_pos h2_2] at h
    cases h
    exact ⟨rfl, buf, hb, rfl⟩
  intro h2_2
  refine SPL_nil ?_
  refine thenP_n ?_
  refine SP_cond_f rfl ?_
  refine SP_skip ?_
  refine thenP_n ?_
  refine SP_seq ?_
  refine SP_seq ?_
  refine SP_region ?_
  refine SPL_y (y_move rfl) rfl ?_
  refine SPL_if (y_fgtr rfl rfl) rfl ?_ ?_
  · intro h4_1
    refine SPL_nil ?_
    refine thenP_n ?_
    refine SP_cond_t rfl ?_
    refine SP_seq ?_
    refine SP_region ?_
    refine SPL_y (y_assign rfl) rfl ?_
    refine SPL_nil ?_
    refine thenP_n ?_
    refine SP_ret ?_
    refine thenP_ret (bodyP_ret (H' := [blk b 71 [.slice (some ⟨nb, 0, none⟩) 24 24], blk nb 5 (bytesV buf)]) (Res1 rfl rfl) (by repeat (first | exact Part.nil _ | (apply Part.cons; (first | exact P0 | exact P1 | exact P2 | exact P3 | exact P4 | exact P5 | exact P6 | exact P7 | exact P8 | exact P9 | exact P10 | exact P11 | exact P12 | exact P13 | exact P14 | exact P15 | exact P16 | exact P17 | exact P18 | exact P19 | exact P20 | exact P21 | exact P22 | exact P23)) | (apply Part.flat; simp only [List.cons_append, List.nil_append]) | (apply Part.nilc))) ?_)
    rw [if_neg h2_2, if_pos h4_1] at h
    cases h
    exact ⟨rfl, buf, hb, rfl⟩
  intro h4_1
  refine SPL_nil ?_
  refine thenP_n ?_
  refine SP_cond_f rfl ?_
  refine SP_skip ?_
  refine thenP_n ?_
  refine SP_seq ?_
  refine SP_seq ?_
  refine SP_region ?_
  refine SPL_y (y_move rfl) rfl ?_
  refine SPL_if (y_flss rfl rfl) rfl ?_ ?_
  · intro h6_1
    refine SPL_nil ?_
    refine thenP_n ?_
    refine SP_cond_t rfl ?_
    refine SP_seq ?_
    refine SP_region ?_
    refine SPL_y (y_assign rfl) rfl ?_
    refine SPL_nil ?_
    refine thenP_n ?_
    refine SP_ret ?_
    refine thenP_ret (bodyP_ret (H' := [blk b 71 [.slice (some ⟨nb, 0, none⟩) 24 24], blk nb 5 (bytesV buf)]) (Res1 rfl rfl) (by repeat (first | exact Part.nil _ | (apply Part.cons; (first | exact P0 | exact P1 | exact P2 | exact P3 | exact P4 | exact P5 | exact P6 | exact P7 | exact P8 | exact P9 | exact P10 | exact P11 | exact P12 | exact P13 | exact P14 | exact P15 | exact P16 | exact P17 | exact P18 | exact P19 | exact P20 | exact P21 | exact P22 | exact P23)) | (apply Part.flat; simp only [List.cons_append, List.nil_append]) | (apply Part.nilc))) ?_)
    rw [if_neg h2_2, if_neg h4_1, if_pos h6_1] at h
    cases h
    exact ⟨rfl, buf, hb, rfl⟩
  intro h6_1
  refine SPL_nil ?_
  refine thenP_n ?_
  refine SP_cond_f rfl ?_
  refine SP_skip ?_
  refine thenP_n ?_
  refine SP_seq ?_
  refine SP_region ?_
  refine SPL_y (y_move rfl) rfl ?_
  refine SPL_y (y_nil rfl) rfl ?_
  refine SPL_y (y_fa fld_71_0 rfl) rfl ?_
  refine SPL_y (y_load Tryz.isAgg67 rfl (by repeat (first | exact Cell.head rfl | apply Cell.tail))) rfl ?_
  refine SPL_y (y_assign rfl) rfl ?_
  refine SPL_nil ?_
  refine thenP_n ?_
  refine SP_seq ?_
  refine SP_region ?_
  refine SPL_y (y_assign rfl) rfl ?_
  refine SPL_nil ?_
  refine thenP_n ?_
  refine SP_seq ?_
  refine SP_region ?_
  refine SPL_y (y_move rfl) rfl ?_
  refine SPL_y (y_shr rfl rfl (by decide) (show ((x : Int)).fdiv (2 ^ (min (52 : Int).toNat IntKind.u64.bits)) = ((x / 4503599627370496 : Nat) : Int) by rw [Int.fdiv_eq_ediv_of_nonneg _ (by decide)]; rfl)) rfl ?_
  refine SPL_y (y_assign rfl) rfl ?_
  refine SPL_nil ?_
  refine thenP_n ?_
  refine SP_seq ?_
  refine SP_region ?_
  refine SPL_y (y_move rfl) rfl ?_
  refine SPL_y (y_assign rfl) rfl ?_
  refine SPL_nil ?_
  refine thenP_n ?_
  refine SP_mid (G := List UInt8 × Nat × List UInt8 × Int) (fun g => [(0, .pointer (some ⟨b, 0, none⟩)), (1, .int .u64 x), (5, Fl x), (6, .slice (some ⟨nb, 0, none⟩) 24 24), (7, I g.2.2.2), (8, .int .u64 (x / 4503599627370496 : Nat)), (9, Fl g.2.1)]) (fun g => [blk b 71 [.slice (some ⟨nb, 0, none⟩) 24 24], blk nb 5 (bytesV (g.2.2.1))]) (fun g => g.1.length ≤ 1 ∧ fmtRest g.1 g.2.1 x = some t ∧ g.2.2.1 = wrB buf 0 g.1 ∧ g.2.2.2 = g.1.length) ?_ ?_
  · refine SP_seq ?_
    refine SP_region ?_
    refine SPL_y (y_move rfl) rfl ?_
    refine SPL_y (y_shr rfl rfl (by decide) (show (((x / 4503599627370496 : Nat) : Int)).fdiv (2 ^ (min (11 : Int).toNat IntKind.u64.bits)) = ((x / 4503599627370496 / 2048 : Nat) : Int) by rw [Int.fdiv_eq_ediv_of_nonneg _ (by decide)]; rfl)) rfl ?_
    refine SPL_ifn (y_neq rfl rfl) rfl ?_ ?_
    · intro h12_2
      refine SPL_nil ?_
      refine thenP_n ?_
      refine SP_cond_f rfl ?_
      refine SP_skip ?_
      refine thenP_n ?_
      rw [if_neg h2_2, if_neg h4_1, if_neg h6_1, if_neg (by omega)] at h
      exact Mid.intro (([], x, buf, 0)) (⟨by simp, h, (wrB_nil buf 0).symm, rfl⟩) (by repeat (first | exact Sub.nil _ | refine Sub.cons rfl ?_)) (by repeat (first | exact Part.nil _ | (apply Part.cons; (first | exact P0 | exact P1 | exact P2 | exact P3 | exact P4 | exact P5 | exact P6 | exact P7 | exact P8 | exact P9 | exact P10 | exact P11 | exact P12 | exact P13 | exact P14 | exact P15 | exact P16 | exact P17 | exact P18 | exact P19 | exact P20 | exact P21 | exact P22 | exact P23)) | (apply Part.flat; simp only [List.cons_append, List.nil_append]) | (apply Part.nilc)))
    intro h12_2
    refine SPL_nil ?_
    refine thenP_n ?_
    refine SP_cond_t rfl ?_
    refine SP_seq ?_
    refine SP_region ?_
    refine SPL_y (y_move rfl) rfl ?_
    refine SPL_y (y_move rfl) rfl ?_
    refine SPL_y (y_ia Tryz.underlying67 Tryz.sizeOf5 rfl rfl (by omega)) rfl ?_
    refine SPL_one rfl (SP1_store Tryz.sizeOf5 rfl rfl rfl (by first | exact U0 | exact U1 | exact U2 | exact U3 | exact U4 | exact U5 | exact U6 | exact U7 | exact U8 | exact U9 | exact U10 | exact U11 | exact U12 | exact U13 | exact U14 | exact U15 | exact U16 | exact U17 | exact U18 | exact U19 | exact U20 | exact U21 | exact U22 | exact U23) (ble_of (by rw [bytesV_len]; simp; omega)) ?_)
    rw [show (bytesV buf).set (0 + (0 : Int).toNat * 1) (.int .u8 45) = bytesV (wrB buf 0 [45]) by have := bytesV_setc (l := buf) (i := 0) (s := []) (j := 0) (c := 45) (v := .int .u8 45) rfl rfl (by simp; omega); rwa [wrB_nil] at this]
    refine SPL_nil ?_
    refine thenP_n ?_
    refine SP_seq ?_
    refine SP_region ?_
    refine SPL_y (y_move rfl) rfl ?_
    refine SPL_y (y_add rfl rfl (by omega)) rfl ?_
    refine SPL_y (y_assign rfl) rfl ?_
    refine SPL_nil ?_
    refine thenP_n ?_
    refine SP_region ?_
    refine SPL_y (y_move rfl) rfl ?_
    refine SPL_y (y_fneg rfl) rfl ?_
    refine SPL_y (y_assign rfl) rfl ?_
    refine SPL_nil ?_
    refine thenP_n ?_
    rw [if_neg h2_2, if_neg h4_1, if_neg h6_1, if_pos (by omega)] at h
    exact Mid.intro (([45], Op.negFloat .f64 x, wrB buf 0 [45], 1)) (⟨by simp, h, rfl, rfl⟩) (by repeat (first | exact Sub.nil _ | refine Sub.cons rfl ?_)) (by repeat (first | exact Part.nil _ | (apply Part.cons; (first | exact P0 | exact P1 | exact P2 | exact P3 | exact P4 | exact P5 | exact P6 | exact P7 | exact P8 | exact P9 | exact P10 | exact P11 | exact P12 | exact P13 | exact P14 | exact P15 | exact P16 | exact P17 | exact P18 | exact P19 | exact P20 | exact P21 | exact P22 | exact P23)) | (apply Part.flat; simp only [List.cons_append, List.nil_append]) | (apply Part.nilc)))
  clear h
  rintro ⟨pre, a, bf, ii⟩ ⟨hpl, h, hbf, hii⟩
  dsimp only at hpl h hbf hii ⊢
  subst hbf hii
  refine SP_mid (G := Unit) (fun _ => [(0, .pointer (some ⟨b, 0, none⟩)), (1, .int .u64 x), (5, Fl x), (6, .slice (some ⟨nb, 0, none⟩) 24 24), (7, I pre.length), (8, .int .u64 (x / 4503599627370496 : Nat)), (9, Fl a)]) (fun _ => [blk b 71 [.slice (some ⟨nb, 0, none⟩) 24 24], blk nb 5 (bytesV (wrB buf 0 pre))]) (fun _ => fmtTail pre x = some t) ?_ ?_
  · refine SP_seq ?_
    refine SP_region ?_
    refine SPL_y (y_move rfl) rfl ?_
    refine SPL_ifn (y_flss rfl rfl) rfl ?_ ?_
    · intro h16_1
      refine SPL_y (y_move rfl) rfl ?_
      refine SPL_gn rfl rfl rfl rfl ?_
      refine SPL_gn rfl rfl rfl rfl ?_
      refine SPL_gn rfl rfl rfl rfl ?_
      refine SPL_gn rfl rfl rfl rfl ?_
      refine SPL_y (y_pick_f rfl rfl) rfl ?_
      refine SPL_nil ?_
      refine thenP_n ?_
      refine SP_cond_f rfl ?_
      refine SP_skip ?_
      refine thenP_n ?_
      unfold fmtRest at h
      rw [if_neg h16_1] at h
      exact Mid.intro (()) (h) (by repeat (first | exact Sub.nil _ | refine Sub.cons rfl ?_)) (by repeat (first | exact Part.nil _ | (apply Part.cons; (first | exact P0 | exact P1 | exact P2 | exact P3 | exact P4 | exact P5 | exact P6 | exact P7 | exact P8 | exact P9 | exact P10 | exact P11 | exact P12 | exact P13 | exact P14 | exact P15 | exact P16 | exact P17 | exact P18 | exact P19 | exact P20 | exact P21 | exact P22 | exact P23)) | (apply Part.flat; simp only [List.cons_append, List.nil_append]) | (apply Part.nilc)))
    intro h16_1
    refine SPL_y (y_move rfl) rfl ?_
    refine SPL_gy rfl rfl ?_
    refine SPL_y (y_move rfl) rfl ?_
    refine SPL_gy rfl rfl ?_
    unfold fmtRest at h
    rw [if_pos h16_1] at h
    have hnan : isNan (FloatKind.f64.decode a) = false := by
      cases hq : isNan (FloatKind.f64.decode a) with
      | false => rfl
      | true => rw [hq, if_pos rfl] at h; cases h
    rw [hnan, if_neg (by decide)] at h
    refine SPL_y (y_move rfl) rfl ?_
    refine SPL_gy rfl rfl ?_
    refine SPL_one rfl (SP1_call (math_Floor a hnan) Tryz.call35 rfl rfl (by repeat (first | exact Part.nil _ | (apply Part.cons; (first | exact P0 | exact P1 | exact P2 | exact P3 | exact P4 | exact P5 | exact P6 | exact P7 | exact P8 | exact P9 | exact P10 | exact P11 | exact P12 | exact P13 | exact P14 | exact P15 | exact P16 | exact P17 | exact P18 | exact P19 | exact P20 | exact P21 | exact P22 | exact P23)) | (apply Part.flat; simp only [List.cons_append, List.nil_append]) | (apply Part.nilc))) ?_)
    rintro v post H' ⟨rfl, rfl⟩ hH
    try simp only [List.cons_append, List.nil_append] at hH
    subst hH
    refine SPL_gy rfl rfl ?_
    refine SPL_ifn (y_feql rfl rfl) rfl ?_ ?_
    · intro h16_6
      refine SPL_y (y_pick_t rfl rfl) rfl ?_
      refine SPL_nil ?_
      refine thenP_n ?_
      refine SP_cond_f rfl ?_
      refine SP_skip ?_
      refine thenP_n ?_
      rw [if_neg h16_6] at h
      exact Mid.intro (()) (h) (by repeat (first | exact Sub.nil _ | refine Sub.cons rfl ?_)) (by repeat (first | exact Part.nil _ | (apply Part.cons; (first | exact P0 | exact P1 | exact P2 | exact P3 | exact P4 | exact P5 | exact P6 | exact P7 | exact P8 | exact P9 | exact P10 | exact P11 | exact P12 | exact P13 | exact P14 | exact P15 | exact P16 | exact P17 | exact P18 | exact P19 | exact P20 | exact P21 | exact P22 | exact P23)) | (apply Part.flat; simp only [List.cons_append, List.nil_append]) | (apply Part.nilc)))
    intro h16_6
    refine SPL_y (y_pick_t rfl rfl) rfl ?_
    refine SPL_nil ?_
    refine thenP_n ?_
    refine SP_cond_t rfl ?_
    refine SP_seq ?_
    refine SP_region ?_
    refine SPL_y (y_move rfl) rfl ?_
    refine SPL_y (y_move rfl) rfl ?_
    refine SPL_y (y_move rfl) rfl ?_
    rw [if_pos h16_6] at h
    obtain ⟨i, hi, hir, rfl⟩ : ∃ i, (FloatKind.f64.decode a).toInt .zero = some i ∧ (0 ≤ i ∧ i < 9007199254740992) ∧ t = pre ++ utoa i.toNat := whole_of h
    have hul : (utoa i.toNat).length ≤ 16 := utoa_lenk (by decide) (by omega)
    have hui : ((i.toNat : Nat) : Int) = i := by omega
    refine SPL_y (y_f2i Tryz.underlying73 Tryz.underlying40 rfl (i := (i.toNat : Nat)) (by rw [hui]; exact hi) (by rw [hui]; exact ⟨hir.1, by show i ≤ 18446744073709551615; omega⟩)) rfl ?_
    refine SPL_one rfl (SP1_call (num_lay nb (wrB buf 0 (pre)) (by rw [wrB_len (by simp; try omega)]; exact hb) (pre).length (i.toNat) (by omega) (by omega)) Tryz.call36 rfl rfl (by repeat (first | exact Part.nil _ | (apply Part.cons; (first | exact P0 | exact P1 | exact P2 | exact P3 | exact P4 | exact P5 | exact P6 | exact P7 | exact P8 | exact P9 | exact P10 | exact P11 | exact P12 | exact P13 | exact P14 | exact P15 | exact P16 | exact P17 | exact P18 | exact P19 | exact P20 | exact P21 | exact P22 | exact P23)) | (apply Part.flat; simp only [List.cons_append, List.nil_append]) | (apply Part.nilc))) ?_)
    rintro v post H' ⟨rfl, rfl⟩ hH
    try simp only [List.cons_append, List.nil_append] at hH
    subst hH
    rw [show wrB (wrB buf 0 (pre)) (pre).length (utoa (i.toNat)) = wrB buf 0 ((pre) ++ utoa (i.toNat)) by have := wrB_wrB (l := buf) (i := 0) (s := pre) (s' := utoa (i.toNat)) (by simp; try omega); simpa using this]
    refine SPL_y (y_assign rfl) rfl ?_
    refine SPL_nil ?_
    refine thenP_n ?_
    refine SP_seq ?_
    refine SP_region ?_
    have hcel : ∀ H, Cells (blk nb 5 (bytesV (wrB buf 0 (pre ++ utoa i.toNat))) :: H) nb 0 (bytesV (pre ++ utoa i.toNat)) := fun H => Cells.head (by rw [List.drop_zero, bytesV_len]; unfold bytesV; rw [← List.map_take, wrB_take rfl])
    refine SPL_y (y_move rfl) rfl ?_
    refine SPL_y (y_move rfl) rfl ?_
    refine SPL_y (y_cut (Arr.full (T := 5) (k := 1) (b := nb) (xs := bytesV buf) (by rw [bytesV_len, hb])) Tryz.underlying67 Tryz.sizeOf5 rfl rfl (by simp; omega)) rfl ?_
    refine SPL_y (y_b2s Tryz.underlying67 Tryz.underlying5 Tryz.underlying9 rfl (l := pre ++ utoa i.toNat) (by repeat (first | exact hcel _ | apply Cells.tail)) (by simp; try omega)) rfl ?_
    refine SPL_y (y_assign rfl) rfl ?_
    refine SPL_nil ?_
    refine thenP_n ?_
    refine SP_ret ?_
    refine thenP_ret (bodyP_ret (H' := [blk b 71 [.slice (some ⟨nb, 0, none⟩) 24 24], blk nb 5 (bytesV (wrB buf 0 (pre ++ utoa i.toNat)))]) (Res1 rfl rfl) (by repeat (first | exact Part.nil _ | (apply Part.cons; (first | exact P0 | exact P1 | exact P2 | exact P3 | exact P4 | exact P5 | exact P6 | exact P7 | exact P8 | exact P9 | exact P10 | exact P11 | exact P12 | exact P13 | exact P14 | exact P15 | exact P16 | exact P17 | exact P18 | exact P19 | exact P20 | exact P21 | exact P22 | exact P23)) | (apply Part.flat; simp only [List.cons_append, List.nil_append]) | (apply Part.nilc))) ?_)
    exact ⟨rfl, wrB buf 0 (pre ++ utoa i.toNat), by rw [wrB_len (l := buf) (i := 0) (by simp; omega)]; exact hb, rfl⟩
  clear h
  rintro _ h
  unfold fmtTail at h
  refine SP_seq ?_
  refine SP_region ?_
  refine SPL_y (y_move rfl) rfl ?_
  refine SPL_y (y_assign rfl) rfl ?_
  refine SPL_nil ?_
  refine thenP_n ?_
  refine SP_seq ?_
  refine SP_region ?_
  refine SPL_y (y_move rfl) rfl ?_
  refine SPL_y (y_move rfl) rfl ?_
  refine SPL_y (y_shl rfl rfl (by decide) (show IntKind.u64.wrap (((x / 4503599627370496 : Nat) : Int) * 2 ^ (min (52 : Int).toNat IntKind.u64.bits)) = ((x / 4503599627370496 * 4503599627370496 : Nat) : Int) by rw [IntKind.wrap_u64]; simp [IntKind.bits]; omega)) rfl ?_
  refine SPL_y (y_com rfl rfl) rfl ?_
  refine SPL_y (y_and rfl rfl (bit_clear x hx)) rfl ?_
  refine SPL_y (y_assign rfl) rfl ?_
  refine SPL_nil ?_
  refine thenP_n ?_
  refine SP_seq ?_
  refine SP_region ?_
  refine SPL_y (y_move rfl) rfl ?_
  refine SPL_y (y_and rfl rfl (bit_and2047u _ (by omega))) rfl ?_
  refine SPL_y (y_conv Tryz.underlying40 Tryz.underlying3 rfl (show IntKind.i64.wrap ((x / 4503599627370496 % 2048 : Nat) : Int) = ((x / 4503599627370496 % 2048 : Nat) : Int) by rw [IntKind.wrap_i64]; omega)) rfl ?_
  refine SPL_y (y_sub rfl rfl (by omega)) rfl ?_
  refine SPL_y (y_assign rfl) rfl ?_
  refine SPL_nil ?_
  refine thenP_n ?_
  refine SP_mid (G := Nat × Int) (fun g => [(0, .pointer (some ⟨b, 0, none⟩)), (1, .int .u64 x), (6, .slice (some ⟨nb, 0, none⟩) 24 24), (7, I pre.length), (10, .int .u64 g.1), (11, I g.2)]) (fun _ => [blk b 71 [.slice (some ⟨nb, 0, none⟩) 24 24], blk nb 5 (bytesV (wrB buf 0 pre))]) (fun g => fmtEnd pre g.1 g.2 = some t ∧ g.1 < 9007199254740992 ∧ -1075 ≤ g.2 ∧ g.2 ≤ 1000) ?_ ?_
  · refine SP_seq ?_
    refine SP_region ?_
    refine SPL_y (y_move rfl) rfl ?_
    refine SPL_if (y_eql rfl rfl) rfl ?_ ?_
    · intro h22_1
      refine SPL_nil ?_
      refine thenP_n ?_
      refine SP_cond_t rfl ?_
      refine SP_region ?_
      refine SPL_y (y_assign rfl) rfl ?_
      refine SPL_nil ?_
      refine thenP_n ?_
      rw [if_pos h22_1] at h
      exact Mid.intro ((x % 4503599627370496, -1074)) (⟨h, by dsimp only; omega, by dsimp only; omega, by dsimp only; omega⟩) (by repeat (first | exact Sub.nil _ | refine Sub.cons rfl ?_)) (by repeat (first | exact Part.nil _ | (apply Part.cons; (first | exact P0 | exact P1 | exact P2 | exact P3 | exact P4 | exact P5 | exact P6 | exact P7 | exact P8 | exact P9 | exact P10 | exact P11 | exact P12 | exact P13 | exact P14 | exact P15 | exact P16 | exact P17 | exact P18 | exact P19 | exact P20 | exact P21 | exact P22 | exact P23)) | (apply Part.flat; simp only [List.cons_append, List.nil_append]) | (apply Part.nilc)))
    intro h22_1
    refine SPL_nil ?_
    refine thenP_n ?_
    refine SP_cond_f rfl ?_
    refine SP_region ?_
    refine SPL_y (y_move rfl) rfl ?_
    refine SPL_y (y_or rfl rfl (bit_or52 _ (by omega))) rfl ?_
    refine SPL_y (y_assign rfl) rfl ?_
    refine SPL_nil ?_
    refine thenP_n ?_
    rw [if_neg h22_1] at h
    exact Mid.intro ((x % 4503599627370496 + 4503599627370496, ((x / 4503599627370496 % 2048 : Nat) : Int) - 1075)) (⟨h, by dsimp only; omega, by dsimp only; omega, by dsimp only; omega⟩) (by repeat (first | exact Sub.nil _ | refine Sub.cons rfl ?_)) (by repeat (first | exact Part.nil _ | (apply Part.cons; (first | exact P0 | exact P1 | exact P2 | exact P3 | exact P4 | exact P5 | exact P6 | exact P7 | exact P8 | exact P9 | exact P10 | exact P11 | exact P12 | exact P13 | exact P14 | exact P15 | exact P16 | exact P17 | exact P18 | exact P19 | exact P20 | exact P21 | exact P22 | exact P23)) | (apply Part.flat; simp only [List.cons_append, List.nil_append]) | (apply Part.nilc)))
  clear h
  rintro ⟨m, e⟩ ⟨h, hm, he1, he2⟩
  dsimp only at h hm he1 he2 ⊢
  unfold fmtEnd at h
  have hm0 : m ≠ 0 := fun q => by rw [if_pos q] at h; cases h
  rw [if_neg hm0] at h
  cases h
  refine SP_seq ?_
  refine SP_region ?_
  refine SPL_y (y_assign rfl) rfl ?_
  refine SPL_nil ?_
  refine thenP_n ?_
  refine SP_seq ?_
  refine SP_seq ?_
  refine SP_region ?_
  refine SPL_y (y_assign rfl) rfl ?_
  refine SPL_nil ?_
  refine thenP_n ?_
  refine SP_block ?_
  refine SP_loop (G := Nat) (fun g => 53 - g) (fun g => [(0, .pointer (some ⟨b, 0, none⟩)), (6, .slice (some ⟨nb, 0, none⟩) 24 24), (7, I pre.length), (10, .int .u64 m), (11, I e), (12, I g), (13, .int .u64 ((2 ^ g : Nat) : Int))]) (fun _ => [blk b 71 [.slice (some ⟨nb, 0, none⟩) 24 24], blk nb 5 (bytesV (wrB buf 0 pre))]) (fun g => g ≤ 52 ∧ tz 53 m 0 = tz (53 - g) m g ∧ m % 2 ^ g = 0) (0) (⟨by decide, rfl, by simp [Nat.mod_one]⟩) (by repeat (first | exact Sub.nil _ | refine Sub.cons rfl ?_)) (by repeat (first | exact Part.nil _ | (apply Part.cons; (first | exact P0 | exact P1 | exact P2 | exact P3 | exact P4 | exact P5 | exact P6 | exact P7 | exact P8 | exact P9 | exact P10 | exact P11 | exact P12 | exact P13 | exact P14 | exact P15 | exact P16 | exact P17 | exact P18 | exact P19 | exact P20 | exact P21 | exact P22 | exact P23)) | (apply Part.flat; simp only [List.cons_append, List.nil_append]) | (apply Part.nilc))) ?_
  rintro tt ⟨ht1, htt2, ht3⟩
  refine SP_seq ?_
  refine SP_seq ?_
  refine SP_region ?_
  refine SPL_y (y_move rfl) rfl ?_
  refine SPL_y (y_move rfl) rfl ?_
  refine SPL_y (y_and rfl rfl (bit_pick m tt (by omega) (by omega))) rfl ?_
  refine SPL_if (y_eql rfl rfl) rfl ?_ ?_
  · intro h27_3
    refine SPL_nil ?_
    refine thenP_n ?_
    refine SP_cond_t rfl ?_
    refine SP_skip ?_
    refine thenP_n ?_
    refine SP_seq ?_
    refine SP_block ?_
    refine SP_region ?_
    refine SPL_y (y_move rfl) rfl ?_
    refine SPL_y (y_add rfl rfl (by omega)) rfl ?_
    refine SPL_y (y_assign rfl) rfl ?_
    refine SPL_nil ?_
    refine inBlockP_n ?_
    refine thenP_n ?_
    refine SP_region ?_
    refine SPL_y (y_move rfl) rfl ?_
    refine SPL_y (y_shl rfl rfl (by decide) (show IntKind.u64.wrap (((2 ^ tt : Nat) : Int) * 2 ^ (min (1 : Int).toNat IntKind.u64.bits)) = ((2 ^ (tt + 1) : Nat) : Int) from pow_step (by omega))) rfl ?_
    refine SPL_y (y_assign rfl) rfl ?_
    refine SPL_nil ?_
    refine thenP_n ?_
    have hq0 : m / 2 ^ tt % 2 = 0 := zero_of h27_3
    have hm1 := mod_step ht3 hq0
    have ht5 : tt + 1 ≤ 52 := by
      refine Decidable.byContradiction fun q => ?_
      obtain rfl : tt = 52 := by omega
      rw [Nat.mod_eq_of_lt (by omega)] at hm1
      exact hm0 hm1
    exact Again.intro (tt + 1) (⟨ht5, by rw [htt2, show 53 - tt = (53 - (tt + 1)) + 1 by omega, tz_step hq0], hm1⟩) (by omega) (by repeat (first | exact Sub.nil _ | refine Sub.cons rfl ?_)) (by repeat (first | exact Part.nil _ | (apply Part.cons; (first | exact P0 | exact P1 | exact P2 | exact P3 | exact P4 | exact P5 | exact P6 | exact P7 | exact P8 | exact P9 | exact P10 | exact P11 | exact P12 | exact P13 | exact P14 | exact P15 | exact P16 | exact P17 | exact P18 | exact P19 | exact P20 | exact P21 | exact P22 | exact P23)) | (apply Part.flat; simp only [List.cons_append, List.nil_append]) | (apply Part.nilc)))
  intro h27_3
  refine SPL_nil ?_
  refine thenP_n ?_
  refine SP_cond_f rfl ?_
  refine SP_exit ?_
  refine thenP_exit ?_
  refine thenP_exit ?_
  refine inBlockP_hit ?_
  refine thenP_n ?_
  refine SP_seq ?_
  refine SP_region ?_
  have htz : tz 53 m 0 = tt := by rw [htt2, tz_stop (by intro q; rw [q] at h27_3; simp at h27_3)]
  rw [← htz]
  have htl : tz 53 m 0 ≤ 52 := by omega
  have hshm : ((m : Int)).fdiv (2 ^ (min ((tz 53 m 0 : Nat) : Int).toNat IntKind.u64.bits)) = ((m / 2 ^ tz 53 m 0 : Nat) : Int) := by rw [show min ((tz 53 m 0 : Nat) : Int).toNat IntKind.u64.bits = tz 53 m 0 by show min _ 64 = _; omega, Int.fdiv_eq_ediv_of_nonneg _ (Int.le_of_lt (Int.pow_pos (by decide)))]; simp
  have hm1 : m / 2 ^ tz 53 m 0 ≤ m := Nat.div_le_self _ _
  generalize hz : m / 2 ^ tz 53 m 0 = z at hm1 hshm
  have hul : (utoa z).length ≤ 16 := utoa_lenk (by decide) (by omega)
  subst hz
  refine SPL_y (y_move rfl) rfl ?_
  refine SPL_y (y_move rfl) rfl ?_
  refine SPL_y (y_conv Tryz.underlying3 Tryz.underlying75 rfl (u64n (by omega))) rfl ?_
  refine SPL_y (y_shr rfl rfl (by omega) hshm) rfl ?_
  refine SPL_y (y_assign rfl) rfl ?_
  refine SPL_nil ?_
  refine thenP_n ?_
  refine SP_seq ?_
  refine SP_region ?_
  refine SPL_y (y_move rfl) rfl ?_
  refine SPL_y (y_move rfl) rfl ?_
  refine SPL_y (y_add rfl rfl (by omega)) rfl ?_
  refine SPL_y (y_assign rfl) rfl ?_
  refine SPL_nil ?_
  refine thenP_n ?_
  refine SP_seq ?_
  refine SP_region ?_
  refine SPL_y (y_move rfl) rfl ?_
  refine SPL_y (y_move rfl) rfl ?_
  refine SPL_y (y_move rfl) rfl ?_
  refine SPL_one rfl (SP1_call (num_lay nb (wrB buf 0 (pre)) (by rw [wrB_len (by simp; try omega)]; exact hb) (pre).length (m / 2 ^ tz 53 m 0) (by omega) (by omega)) Tryz.call36 rfl rfl (by repeat (first | exact Part.nil _ | (apply Part.cons; (first | exact P0 | exact P1 | exact P2 | exact P3 | exact P4 | exact P5 | exact P6 | exact P7 | exact P8 | exact P9 | exact P10 | exact P11 | exact P12 | exact P13 | exact P14 | exact P15 | exact P16 | exact P17 | exact P18 | exact P19 | exact P20 | exact P21 | exact P22 | exact P23)) | (apply Part.flat; simp only [List.cons_append, List.nil_append]) | (apply Part.nilc))) ?_)
  rintro v post H' ⟨rfl, rfl⟩ hH
  try simp only [List.cons_append, List.nil_append] at hH
  subst hH
  rw [show wrB (wrB buf 0 (pre)) (pre).length (utoa (m / 2 ^ tz 53 m 0)) = wrB buf 0 ((pre) ++ utoa (m / 2 ^ tz 53 m 0)) by have := wrB_wrB (l := buf) (i := 0) (s := pre) (s' := utoa (m / 2 ^ tz 53 m 0)) (by simp; try omega); simpa using this]
  refine SPL_y (y_assign rfl) rfl ?_
  refine SPL_nil ?_
  refine thenP_n ?_
  refine SP_seq ?_
  refine SP_region ?_
  refine SPL_y (y_move rfl) rfl ?_
  refine SPL_y (y_move rfl) rfl ?_
  refine SPL_y (y_ia Tryz.underlying67 Tryz.sizeOf5 rfl rfl (by simp; omega)) rfl ?_
  refine SPL_one rfl (SP1_store Tryz.sizeOf5 rfl rfl rfl (by first | exact U0 | exact U1 | exact U2 | exact U3 | exact U4 | exact U5 | exact U6 | exact U7 | exact U8 | exact U9 | exact U10 | exact U11 | exact U12 | exact U13 | exact U14 | exact U15 | exact U16 | exact U17 | exact U18 | exact U19 | exact U20 | exact U21 | exact U22 | exact U23) (ble_of (by rw [bytesV_len, wrB_len (by simp; omega)]; simp; omega)) ?_)
  rw [bytesV_setc (l := buf) (i := 0) (s := pre ++ utoa (m / 2 ^ tz 53 m 0)) (c := 112) (v := .int .u8 112) rfl (by simp) (by simp; omega)]
  refine SPL_nil ?_
  refine thenP_n ?_
  refine SP_seq ?_
  refine SP_region ?_
  refine SPL_y (y_move rfl) rfl ?_
  refine SPL_y (y_add rfl rfl (by omega)) rfl ?_
  refine SPL_y (y_assign rfl) rfl ?_
  refine SPL_nil ?_
  refine thenP_n ?_
  refine SP_mid (G := List UInt8 × Int × List UInt8 × Int) (fun g => [(0, .pointer (some ⟨b, 0, none⟩)), (6, .slice (some ⟨nb, 0, none⟩) 24 24), (7, I g.2.2.2), (11, I g.2.1)]) (fun g => [blk b 71 [.slice (some ⟨nb, 0, none⟩) 24 24], blk nb 5 (bytesV (g.2.2.1))]) (fun g => g.1 = pre ++ utoa (m / 2 ^ tz 53 m 0) ++ [112] ++ (if e + tz 53 m 0 < 0 then [45] else []) ∧ g.2.1 = ((e + tz 53 m 0).natAbs : Int) ∧ g.2.2.1 = wrB buf 0 g.1 ∧ g.2.2.2 = g.1.length) ?_ ?_
  · refine SP_seq ?_
    refine SP_region ?_
    refine SPL_y (y_move rfl) rfl ?_
    refine SPL_ifn (y_lss rfl rfl) rfl ?_ ?_
    · intro h35_1
      refine SPL_nil ?_
      refine thenP_n ?_
      refine SP_cond_f rfl ?_
      refine SP_skip ?_
      refine thenP_n ?_
      exact Mid.intro ((pre ++ utoa (m / 2 ^ tz 53 m 0) ++ [112], e + tz 53 m 0, wrB buf 0 (pre ++ utoa (m / 2 ^ tz 53 m 0) ++ [112]), (pre.length : Int) + (utoa (m / 2 ^ tz 53 m 0)).length + 1)) (⟨by dsimp only; rw [if_neg h35_1, List.append_nil], by dsimp only; omega, rfl, by simp; omega⟩) (by repeat (first | exact Sub.nil _ | refine Sub.cons rfl ?_)) (by repeat (first | exact Part.nil _ | (apply Part.cons; (first | exact P0 | exact P1 | exact P2 | exact P3 | exact P4 | exact P5 | exact P6 | exact P7 | exact P8 | exact P9 | exact P10 | exact P11 | exact P12 | exact P13 | exact P14 | exact P15 | exact P16 | exact P17 | exact P18 | exact P19 | exact P20 | exact P21 | exact P22 | exact P23)) | (apply Part.flat; simp only [List.cons_append, List.nil_append]) | (apply Part.nilc)))
    intro h35_1
    refine SPL_nil ?_
    refine thenP_n ?_
    refine SP_cond_t rfl ?_
    refine SP_seq ?_
    refine SP_region ?_
    refine SPL_y (y_move rfl) rfl ?_
    refine SPL_y (y_move rfl) rfl ?_
    refine SPL_y (y_ia Tryz.underlying67 Tryz.sizeOf5 rfl rfl (by simp; omega)) rfl ?_
    refine SPL_one rfl (SP1_store Tryz.sizeOf5 rfl rfl rfl (by first | exact U0 | exact U1 | exact U2 | exact U3 | exact U4 | exact U5 | exact U6 | exact U7 | exact U8 | exact U9 | exact U10 | exact U11 | exact U12 | exact U13 | exact U14 | exact U15 | exact U16 | exact U17 | exact U18 | exact U19 | exact U20 | exact U21 | exact U22 | exact U23) (ble_of (by rw [bytesV_len, wrB_len (by simp; omega)]; simp; omega)) ?_)
    rw [bytesV_setc (l := buf) (i := 0) (s := pre ++ utoa (m / 2 ^ tz 53 m 0) ++ [112]) (c := 45) (v := .int .u8 45) rfl (by simp; try omega) (by simp; omega)]
    refine SPL_nil ?_
    refine thenP_n ?_
    refine SP_seq ?_
    refine SP_region ?_
    refine SPL_y (y_move rfl) rfl ?_
    refine SPL_y (y_add rfl rfl (by omega)) rfl ?_
    refine SPL_y (y_assign rfl) rfl ?_
    refine SPL_nil ?_
    refine thenP_n ?_
    refine SP_region ?_
    refine SPL_y (y_move rfl) rfl ?_
    refine SPL_y (y_neg rfl (show IntKind.i64.wrap (0 - (e + (tz 53 m 0 : Int))) = ((e + (tz 53 m 0 : Int)).natAbs : Int) by rw [IntKind.wrap_i64]; omega)) rfl ?_
    refine SPL_y (y_assign rfl) rfl ?_
    refine SPL_nil ?_
    refine thenP_n ?_
    exact Mid.intro ((pre ++ utoa (m / 2 ^ tz 53 m 0) ++ [112] ++ [45], ((e + tz 53 m 0).natAbs : Int), wrB buf 0 (pre ++ utoa (m / 2 ^ tz 53 m 0) ++ [112] ++ [45]), (pre.length : Int) + (utoa (m / 2 ^ tz 53 m 0)).length + 1 + 1)) (⟨by dsimp only; rw [if_pos h35_1], rfl, rfl, by simp; omega⟩) (by repeat (first | exact Sub.nil _ | refine Sub.cons rfl ?_)) (by repeat (first | exact Part.nil _ | (apply Part.cons; (first | exact P0 | exact P1 | exact P2 | exact P3 | exact P4 | exact P5 | exact P6 | exact P7 | exact P8 | exact P9 | exact P10 | exact P11 | exact P12 | exact P13 | exact P14 | exact P15 | exact P16 | exact P17 | exact P18 | exact P19 | exact P20 | exact P21 | exact P22 | exact P23)) | (apply Part.flat; simp only [List.cons_append, List.nil_append]) | (apply Part.nilc)))
  rintro ⟨cur, ei, bf, ii⟩ ⟨hcur, hei, hbf, hii⟩
  dsimp only at hcur hei hbf hii ⊢
  obtain ⟨ea, hea⟩ : ∃ ea, (e + tz 53 m 0).natAbs = ea := ⟨_, rfl⟩
  rw [hea] at hei ⊢
  rw [← hcur]
  subst hbf hii hei
  have hcl : cur.length ≤ 19 := by rw [hcur]; simp; split <;> simp <;> omega
  have hel : (utoa ea).length ≤ 4 := utoa_lenk (by decide) (by omega)
  refine SP_seq ?_
  refine SP_region ?_
  refine SPL_y (y_move rfl) rfl ?_
  refine SPL_y (y_move rfl) rfl ?_
  refine SPL_y (y_move rfl) rfl ?_
  refine SPL_y (y_conv Tryz.underlying3 Tryz.underlying40 rfl (u64n (by omega))) rfl ?_
  refine SPL_one rfl (SP1_call (num_lay nb (wrB buf 0 (cur)) (by rw [wrB_len (by simp; try omega)]; exact hb) (cur).length (ea) (by omega) (by omega)) Tryz.call36 rfl rfl (by repeat (first | exact Part.nil _ | (apply Part.cons; (first | exact P0 | exact P1 | exact P2 | exact P3 | exact P4 | exact P5 | exact P6 | exact P7 | exact P8 | exact P9 | exact P10 | exact P11 | exact P12 | exact P13 | exact P14 | exact P15 | exact P16 | exact P17 | exact P18 | exact P19 | exact P20 | exact P21 | exact P22 | exact P23)) | (apply Part.flat; simp only [List.cons_append, List.nil_append]) | (apply Part.nilc))) ?_)
  rintro v post H' ⟨rfl, rfl⟩ hH
  try simp only [List.cons_append, List.nil_append] at hH
  subst hH
  rw [show wrB (wrB buf 0 (cur)) (cur).length (utoa (ea)) = wrB buf 0 ((cur) ++ utoa (ea)) by have := wrB_wrB (l := buf) (i := 0) (s := cur) (s' := utoa (ea)) (by simp; try omega); simpa using this]
  refine SPL_y (y_assign rfl) rfl ?_
  refine SPL_nil ?_
  refine thenP_n ?_
  refine SP_seq ?_
  refine SP_region ?_
  have hcel : ∀ H, Cells (blk nb 5 (bytesV (wrB buf 0 (cur ++ utoa ea))) :: H) nb 0 (bytesV (cur ++ utoa ea)) := fun H => Cells.head (by rw [List.drop_zero, bytesV_len]; unfold bytesV; rw [← List.map_take, wrB_take rfl])
  refine SPL_y (y_move rfl) rfl ?_
  refine SPL_y (y_move rfl) rfl ?_
  refine SPL_y (y_cut (Arr.full (T := 5) (k := 1) (b := nb) (xs := bytesV buf) (by rw [bytesV_len, hb])) Tryz.underlying67 Tryz.sizeOf5 rfl rfl (by simp; omega)) rfl ?_
  refine SPL_y (y_b2s Tryz.underlying67 Tryz.underlying5 Tryz.underlying9 rfl (l := cur ++ utoa ea) (by repeat (first | exact hcel _ | apply Cells.tail)) (by simp; try omega)) rfl ?_
  refine SPL_y (y_assign rfl) rfl ?_
  refine SPL_nil ?_
  refine thenP_n ?_
  refine SP_ret ?_
  refine bodyP_ret (H' := [blk b 71 [.slice (some ⟨nb, 0, none⟩) 24 24], blk nb 5 (bytesV (wrB buf 0 (cur ++ utoa ea)))]) (Res1 rfl rfl) (by repeat (first | exact Part.nil _ | (apply Part.cons; (first | exact P0 | exact P1 | exact P2 | exact P3 | exact P4 | exact P5 | exact P6 | exact P7 | exact P8 | exact P9 | exact P10 | exact P11 | exact P12 | exact P13 | exact P14 | exact P15 | exact P16 | exact P17 | exact P18 | exact P19 | exact P20 | exact P21 | exact P22 | exact P23)) | (apply Part.flat; simp only [List.cons_append, List.nil_append]) | (apply Part.nilc))) ?_
  exact ⟨rfl, wrB buf 0 (cur ++ utoa ea), by rw [wrB_len (l := buf) (i := 0) (by simp; omega)]; exact hb, rfl⟩

end Go.Sl
