/- Walks: package num (made by program out of short notes) -/
import Derived.Test.Qxb6500573aGreatDoorAB
namespace Go.Sl
open Go Go.Wl Go.Proofs
set_option maxRecDepth 100000
set_option linter.unusedVariables false
set_option linter.unusedSimpArgs false
def isNum (b nb : Nat) (buf : List UInt8) (s : Seg) : Prop := buf.length = 24 ∧ s = List.flatten [blk b 71 [.slice (some ⟨nb, 0, none⟩) 24 24], blk nb 5 (bytesV buf)]
theorem bytesV_len (l : List UInt8) : (bytesV l).length = l.length := by simp [bytesV]
theorem digitU (d : Nat) (h : d < 10) : (UInt8.ofNat (48 + d)).toNat = 48 + d := by rw [UInt8.toNat_ofNat']; omega
theorem bytesV_setw {l s : List UInt8} {i : Nat} {j : Int} {c : UInt8} (hj : j = i + s.length) (h : i + s.length < l.length) : (bytesV (wrB l i s)).set (0 + j.toNat * 1) (.int .u8 (c.toNat : Int)) = bytesV (wrB l i (s ++ [c])) := by
  subst hj
  rw [show 0 + ((i : Int) + s.length).toNat * 1 = i + s.length by omega, ← wrB_snoc h]
  simp [bytesV]
theorem addU {d : Nat} (h : d < 10) : IntKind.u64.wrap (48 + (d : Int)) = ((48 + d : Nat) : Int) := by rw [IntWalk.u64_in _ (by omega)]; omega
theorem cvU {d : Nat} (h : d < 10) : IntKind.u8.wrap ((48 + d : Nat) : Int) = ((UInt8.ofNat (48 + d)).toNat : Int) := by rw [digitU _ h, IntKind.wrap_u8]; omega
theorem pow10_63 {j u : Nat} (h : 10 ^ j ≤ u) (hu : u < 18446744073709551616) : j < 20 := by
  refine Decidable.byContradiction fun hj => ?_
  have : 10 ^ 20 ≤ 10 ^ j := Nat.pow_le_pow_right (by decide) (by omega)
  have : (18446744073709551616 : Nat) ≤ 10 ^ 20 := by decide
  omega

theorem num_lay (nb : Nat) (l : List UInt8) (hl : l.length = 24) (i0 u : Nat) (hu : u < 18446744073709551616) (hr : i0 + (utoa u).length ≤ 24) : Spec Tryz.prog 36 [.slice (some ⟨nb, 0, none⟩) 24 24, I i0, .int .u64 u] [blk nb 5 (bytesV l)] (Ret fun v H => v = I (i0 + (utoa u).length) ∧ H = [blk nb 5 (bytesV (wrB l i0 (utoa u)))]) := by
  refine Spec_enter Tryz.func36 rfl Tryz.ntmps36 rfl ?_
  show SP _ _ _ _ _ [(0, _), (1, _), (2, _)] _
  refine SP_seq ?_
  refine SP_region ?_
  refine SPL_y (y_assign rfl) rfl ?_
  refine SPL_nil ?_
  refine thenP_n ?_
  refine SP_seq ?_
  refine SP_region ?_
  refine SPL_y (y_assign rfl) rfl ?_
  refine SPL_nil ?_
  refine thenP_n ?_
  refine SP_seq ?_
  refine SP_block ?_
  refine SP_loop (G := Nat) (fun g => 20 - g) (fun g => [(0, .slice (some ⟨nb, 0, none⟩) 24 24), (1, I i0), (2, .int .u64 u), (7, .int .u64 ((10 ^ g : Nat) : Int))]) (fun g => [blk nb 5 (bytesV l)]) (fun g => g = 0 ∨ 10 ^ g ≤ u) (0) (.inl rfl) (by repeat (first | exact Sub.nil _ | refine Sub.cons rfl ?_)) (by repeat (first | exact Part.nil _ | (apply Part.cons; (first | exact P0 | exact P1 | exact P2 | exact P3 | exact P4 | exact P5 | exact P6 | exact P7 | exact P8 | exact P9 | exact P10 | exact P11 | exact P12 | exact P13 | exact P14 | exact P15 | exact P16 | exact P17 | exact P18 | exact P19 | exact P20 | exact P21 | exact P22 | exact P23)) | (apply Part.flat; simp only [List.cons_append, List.nil_append]) | (apply Part.nilc))) ?_
  rintro j hj
  refine SP_seq ?_
  refine SP_seq ?_
  refine SP_region ?_
  have hp : 0 < 10 ^ j := Nat.pow_pos (by decide)
  have hne : ((10 ^ j : Nat) : Int) ≠ 0 := by omega
  refine SPL_y (y_move rfl) rfl ?_
  refine SPL_y (y_move rfl) rfl ?_
  refine SPL_y (y_quo rfl rfl hne (quoU hu)) rfl ?_
  refine SPL_if (y_geq rfl rfl) rfl ?_ ?_
  · intro h2_3
    refine SPL_nil ?_
    refine thenP_n ?_
    refine SP_cond_t rfl ?_
    refine SP_skip ?_
    refine thenP_n ?_
    refine SP_block ?_
    refine SP_region ?_
    have hge : 10 ^ (j + 1) ≤ u := by
      have h1 : 10 ≤ u / 10 ^ j := by omega
      rw [Nat.pow_succ, Nat.mul_comm]
      exact (Nat.le_div_iff_mul_le hp).1 h1
    have hw10 : IntKind.u64.wrap (((10 ^ j : Nat) : Int) * 10) = ((10 ^ (j + 1) : Nat) : Int) := by rw [IntWalk.u64_in _ (by rw [Nat.pow_succ] at hge; omega), Nat.pow_succ]; simp
    refine SPL_y (y_move rfl) rfl ?_
    refine SPL_y (y_mulw rfl rfl hw10) rfl ?_
    refine SPL_y (y_assign rfl) rfl ?_
    refine SPL_nil ?_
    refine inBlockP_n ?_
    refine thenP_n ?_
    exact Again.intro (j + 1) (.inr hge) (by have := pow10_63 hge hu; omega) (by repeat (first | exact Sub.nil _ | refine Sub.cons rfl ?_)) (by repeat (first | exact Part.nil _ | (apply Part.cons; (first | exact P0 | exact P1 | exact P2 | exact P3 | exact P4 | exact P5 | exact P6 | exact P7 | exact P8 | exact P9 | exact P10 | exact P11 | exact P12 | exact P13 | exact P14 | exact P15 | exact P16 | exact P17 | exact P18 | exact P19 | exact P20 | exact P21 | exact P22 | exact P23)) | (apply Part.flat; simp only [List.cons_append, List.nil_append]) | (apply Part.nilc)))
  intro h2_3
  refine SPL_nil ?_
  refine thenP_n ?_
  refine SP_cond_f rfl ?_
  refine SP_exit ?_
  refine thenP_exit ?_
  refine thenP_exit ?_
  refine inBlockP_hit ?_
  refine thenP_n ?_
  refine SP_seq ?_
  refine SP_block ?_
  refine SP_loop (G := Nat × Nat × Nat × List UInt8 × List UInt8 × Int) (fun g => g.1) (fun g => [(0, .slice (some ⟨nb, 0, none⟩) 24 24), (1, I g.2.2.2.2.2), (2, .int .u64 g.2.2.1), (7, .int .u64 g.2.1)]) (fun g => [blk nb 5 (bytesV g.2.2.2.2.1)]) (fun g => ((g.1 = 0 ∧ g.2.1 = 0) ∨ (0 < g.1 ∧ g.2.1 = 10 ^ (g.1 - 1))) ∧ g.2.2.1 < 10 ^ g.1 ∧ utoa u = g.2.2.2.1 ++ decs g.1 g.2.2.1 ∧ g.2.2.1 ≤ u ∧ g.2.2.2.2.1 = wrB l i0 g.2.2.2.1 ∧ g.2.2.2.2.2 = i0 + g.2.2.2.1.length ∧ (g.1 < 2 ∨ 10 ^ (g.1 - 1) ≤ u)) ((j + 1, 10 ^ j, u, [], l, i0)) (⟨.inr ⟨by simp, by simp⟩, lt_of_quo h2_3, by rw [utoa_decs hj (lt_of_quo h2_3) hu]; rfl, Nat.le_refl _, (wrB_nil l i0).symm, by simp, hj.elim (fun h0 => .inl (by dsimp only; omega)) (fun h0 => .inr (by simpa using h0))⟩) (by repeat (first | exact Sub.nil _ | refine Sub.cons rfl ?_)) (by repeat (first | exact Part.nil _ | (apply Part.cons; (first | exact P0 | exact P1 | exact P2 | exact P3 | exact P4 | exact P5 | exact P6 | exact P7 | exact P8 | exact P9 | exact P10 | exact P11 | exact P12 | exact P13 | exact P14 | exact P15 | exact P16 | exact P17 | exact P18 | exact P19 | exact P20 | exact P21 | exact P22 | exact P23)) | (apply Part.flat; simp only [List.cons_append, List.nil_append]) | (apply Part.nilc))) ?_
  rintro ⟨k, p, r, pre, buf, ii⟩ ⟨hkp, hk, hpre, hru, hbuf, hii, hkk⟩
  dsimp only at hkp hk hpre hru hbuf hii hkk ⊢
  subst hbuf
  refine SP_seq ?_
  refine SP_seq ?_
  refine SP_region ?_
  refine SPL_y (y_move rfl) rfl ?_
  refine SPL_ifn (y_gtr rfl rfl) rfl ?_ ?_
  · intro h4_1
    refine SPL_nil ?_
    refine thenP_n ?_
    refine SP_cond_f rfl ?_
    refine SP_exit ?_
    refine thenP_exit ?_
    refine thenP_exit ?_
    refine inBlockP_hit ?_
    refine thenP_n ?_
    refine SP_seq ?_
    obtain rfl : k = 0 := hkp.elim (fun h0 => h0.1) (fun h0 => absurd (Nat.pow_pos (n := k - 1) (show 0 < 10 by decide)) (by rw [← h0.2]; omega))
    rw [show decs 0 r = [] from rfl, List.append_nil] at hpre
    refine SP_region ?_
    refine SPL_y (y_move rfl) rfl ?_
    refine SPL_y (y_assign rfl) rfl ?_
    refine SPL_nil ?_
    refine thenP_n ?_
    refine SP_ret ?_
    refine bodyP_ret (H' := [blk nb 5 (bytesV (wrB l i0 pre))]) (Res1 rfl rfl) (by repeat (first | exact Part.nil _ | (apply Part.cons; (first | exact P0 | exact P1 | exact P2 | exact P3 | exact P4 | exact P5 | exact P6 | exact P7 | exact P8 | exact P9 | exact P10 | exact P11 | exact P12 | exact P13 | exact P14 | exact P15 | exact P16 | exact P17 | exact P18 | exact P19 | exact P20 | exact P21 | exact P22 | exact P23)) | (apply Part.flat; simp only [List.cons_append, List.nil_append]) | (apply Part.nilc))) ?_
    rw [hpre, hii]
    exact ⟨rfl, rfl⟩
  intro h4_1
  refine SPL_nil ?_
  refine thenP_n ?_
  refine SP_cond_t rfl ?_
  refine SP_skip ?_
  refine thenP_n ?_
  refine SP_block ?_
  refine SP_seq ?_
  refine SP_region ?_
  obtain ⟨k, rfl⟩ : ∃ k', k = k' + 1 := ⟨k - 1, by omega⟩
  obtain rfl : p = 10 ^ k := hkp.elim (fun h0 => by omega) (fun h0 => by simpa using h0.2)
  have hp : 0 < 10 ^ k := Nat.pow_pos (by decide)
  have hp64 : 10 ^ k < 18446744073709551616 := hkk.elim (fun h0 => by obtain rfl : k = 0 := (by omega); decide) (fun h0 => by rw [Nat.add_sub_cancel] at h0; omega)
  have hd10 : r / 10 ^ k < 10 := by rw [Nat.div_lt_iff_lt_mul hp, Nat.mul_comm, ← Nat.pow_succ]; exact hk
  have hq9 : (k = 0 ∧ 10 ^ k / 10 = 0) ∨ (0 < k ∧ 10 ^ k / 10 = 10 ^ (k - 1)) := by
    cases k with
    | zero => exact .inl ⟨rfl, by decide⟩
    | succ k => exact .inr ⟨by omega, by rw [Nat.add_sub_cancel, Nat.pow_succ]; omega⟩
  have hpl : pre.length + (k + 1) = (utoa u).length := by rw [hpre, List.length_append, decs_len]
  have hlw := wrB_len (l := l) (i := i0) (s := pre) (by omega)
  refine SPL_y (y_move rfl) rfl ?_
  refine SPL_y (y_move rfl) rfl ?_
  refine SPL_y (y_move rfl) rfl ?_
  refine SPL_y (y_move rfl) rfl ?_
  refine SPL_y (y_quo rfl rfl (by omega) (quoU (by omega))) rfl ?_
  refine SPL_y (y_addw rfl rfl (addU hd10)) rfl ?_
  refine SPL_y (y_conv Tryz.underlying40 Tryz.underlying5 rfl (cvU hd10)) rfl ?_
  refine SPL_y (y_ia Tryz.underlying67 Tryz.sizeOf5 rfl rfl (by omega)) rfl ?_
  refine SPL_one rfl (SP1_store Tryz.sizeOf5 rfl rfl rfl (by first | exact U0 | exact U1 | exact U2 | exact U3 | exact U4 | exact U5 | exact U6 | exact U7 | exact U8 | exact U9 | exact U10 | exact U11 | exact U12 | exact U13 | exact U14 | exact U15 | exact U16 | exact U17 | exact U18 | exact U19 | exact U20 | exact U21 | exact U22 | exact U23) (ble_of (by rw [bytesV_len]; omega)) ?_)
  rw [bytesV_setw (l := l) (i := i0) (s := pre) hii (by omega)]
  refine SPL_nil ?_
  refine thenP_n ?_
  refine SP_seq ?_
  refine SP_region ?_
  refine SPL_y (y_move rfl) rfl ?_
  refine SPL_y (y_add rfl rfl (by omega)) rfl ?_
  refine SPL_y (y_assign rfl) rfl ?_
  refine SPL_nil ?_
  refine thenP_n ?_
  refine SP_seq ?_
  refine SP_region ?_
  refine SPL_y (y_move rfl) rfl ?_
  refine SPL_y (y_move rfl) rfl ?_
  refine SPL_y (y_rem rfl rfl (by omega) (remU _ _)) rfl ?_
  refine SPL_y (y_assign rfl) rfl ?_
  refine SPL_nil ?_
  refine thenP_n ?_
  refine SP_region ?_
  refine SPL_y (y_move rfl) rfl ?_
  refine SPL_y (y_quo rfl rfl (by decide) (quoU (b := 10) hp64)) rfl ?_
  refine SPL_y (y_assign rfl) rfl ?_
  refine SPL_nil ?_
  refine inBlockP_n ?_
  refine thenP_n ?_
  exact Again.intro ((k, 10 ^ k / 10, r % 10 ^ k, pre ++ [UInt8.ofNat (48 + r / 10 ^ k)], _, ii + 1)) (⟨hq9, Nat.mod_lt _ hp, by dsimp only; rw [hpre, decs]; simp, by dsimp only; have := Nat.mod_le r (10 ^ k); omega, rfl, by simp; omega, hkk.elim (fun h0 => .inl (by dsimp only; omega)) (fun h0 => .inr (Nat.le_trans (Nat.pow_le_pow_right (by decide) (by dsimp only; omega)) h0))⟩) (by dsimp only; omega) (by repeat (first | exact Sub.nil _ | refine Sub.cons rfl ?_)) (by repeat (first | exact Part.nil _ | (apply Part.cons; (first | exact P0 | exact P1 | exact P2 | exact P3 | exact P4 | exact P5 | exact P6 | exact P7 | exact P8 | exact P9 | exact P10 | exact P11 | exact P12 | exact P13 | exact P14 | exact P15 | exact P16 | exact P17 | exact P18 | exact P19 | exact P20 | exact P21 | exact P22 | exact P23)) | (apply Part.flat; simp only [List.cons_append, List.nil_append]) | (apply Part.nilc)))

end Go.Sl
