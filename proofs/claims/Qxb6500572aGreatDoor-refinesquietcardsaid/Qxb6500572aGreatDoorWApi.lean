/- Walks: package api, Num and Vals (made by program out of short notes) -/
import Derived.Test.Qxb6500572aGreatDoorFacts
import Derived.Test.Qxb6500572aGreatDoorRepr
namespace Go.Sl
open Go Go.Wl Go.Proofs
set_option maxRecDepth 100000
set_option linter.unusedVariables false
set_option linter.unusedSimpArgs false
theorem u64_abs (n : Int) (h1 : -9223372036854775808 ≤ n) (h2 : n ≤ 9223372036854775807) : ∃ u1 : Nat, IntKind.u64.wrap n = (u1 : Int) ∧ (0 ≤ n → u1 = n.natAbs) ∧ (n < 0 → IntKind.u64.wrap (0 - (u1 : Int)) = (n.natAbs : Int)) := by
  have hw : ∀ x : Int, IntKind.u64.wrap x = x % 18446744073709551616 := fun x => by simp [IntKind.wrap, IntKind.bits, IntKind.signed]
  refine ⟨(n % 18446744073709551616).toNat, by rw [hw]; omega, fun h => by omega, fun h => ?_⟩
  rw [hw]; omega
theorem bytesV_set {pre t : List UInt8} {i : Int} {c : UInt8} (hi : i = pre.length) (hp : 0 < pre.length) : (bytesV (pre ++ t)).set (0 + (i - 1).toNat * 1) (.int .u8 (c.toNat : Int)) = bytesV (pre.dropLast ++ c :: t) := by
  subst hi
  have e : 0 + ((pre.length : Int) - 1).toNat * 1 = pre.length - 1 := by omega
  rw [e, bytesV, ← List.map_set, bytesV]
  congr 1
  rw [List.set_append, if_pos (by omega), List.dropLast_eq_take, List.set_eq_take_append_cons_drop, if_pos (by omega), List.drop_eq_nil_of_le (by omega)]
  simp
theorem bytesV_drop (pre t : List UInt8) : ((bytesV (pre ++ t)).drop pre.length).take (bytesV t).length = bytesV t := by
  have e : bytesV (pre ++ t) = bytesV pre ++ bytesV t := List.map_append ..
  have l : (bytesV pre).length = pre.length := by simp [bytesV]
  rw [e, List.drop_append_of_le_length (by omega), List.drop_eq_nil_of_le (by omega)]
  simp
theorem digit_u8 (u : Nat) : (UInt8.ofNat (48 + u % 10)).toNat = 48 + u % 10 := by
  rw [UInt8.toNat_ofNat']; omega

theorem api_Num (s : List UInt8) (n : Int) (hs : s.length ≤ 1000000000000) (h1 : -9223372036854775808 ≤ n) (h2 : n ≤ 9223372036854775807) : Spec Tryz.prog 41 [S s, I n] [] (Ret fun v H => v = S (num s n) ∧ H = []) := by
  obtain ⟨u1, hu1, hc1, hc2⟩ := u64_abs n h1 h2
  refine Spec_enter Tryz.func41 rfl Tryz.ntmps41 rfl ?_
  show SP _ _ _ _ _ [(0, _), (1, _)] _
  refine SP_seq ?_
  refine SP_region ?_
  refine SPL_y (y_assign rfl) rfl ?_
  refine SPL_nil ?_
  refine thenP_n ?_
  refine SP_seq ?_
  refine SP_seq ?_
  refine SP_region ?_
  refine SPL_y (y_move rfl) rfl ?_
  refine SPL_if (y_eql rfl rfl) rfl ?_ ?_
  · intro h1_1
    refine SPL_nil ?_
    refine thenP_n ?_
    refine SP_cond_t rfl ?_
    refine SP_seq ?_
    refine SP_region ?_
    refine SPL_y (y_move rfl) rfl ?_
    refine SPL_y (y_cat rfl rfl (by first | omega | (simp; omega))) rfl ?_
    refine SPL_y (y_assign rfl) rfl ?_
    refine SPL_nil ?_
    refine thenP_n ?_
    refine SP_ret ?_
    refine thenP_ret (bodyP_ret (H' := []) (Res1 rfl rfl) (by repeat (first | exact Part.nil _ | (apply Part.cons; (first | exact P0 | exact P1 | exact P2 | exact P3 | exact P4 | exact P5 | exact P6 | exact P7 | exact P8 | exact P9 | exact P10 | exact P11 | exact P12 | exact P13 | exact P14 | exact P15 | exact P16 | exact P17 | exact P18 | exact P19 | exact P20 | exact P21 | exact P22 | exact P23)) | (apply Part.flat; simp only [List.cons_append, List.nil_append]) | (apply Part.nilc))) ?_)
    exact ⟨by simp [num, numS, h1_1], rfl⟩
  intro h1_1
  refine SPL_nil ?_
  refine thenP_n ?_
  refine SP_cond_f rfl ?_
  refine SP_skip ?_
  refine thenP_n ?_
  refine SP_seq ?_
  refine SP_region ?_
  refine SPL_y (y_move rfl) rfl ?_
  refine SPL_y (y_conv Tryz.underlying3 Tryz.underlying142 rfl hu1) rfl ?_
  refine SPL_y (y_assign rfl) rfl ?_
  refine SPL_nil ?_
  refine thenP_n ?_
  refine SP_seq ?_
  refine SP_seq ?_
  refine SP_region ?_
  refine SPL_y (y_move rfl) rfl ?_
  refine SPL_ifn (y_lss rfl rfl) rfl ?_ ?_
  · intro h4_1
    refine SPL_nil ?_
    refine thenP_n ?_
    refine SP_cond_f rfl ?_
    refine SP_skip ?_
    refine thenP_n ?_
    refine SP_seq ?_
    have hn0 : n.natAbs < 100000000000000000000 := by omega
    first
      | (have e1 := hc1 (by omega); subst e1)
      | skip
    refine SP_region ?_
    refine SPL_one rfl (SP1_alloc Tryz.zeroValue143 rfl rfl ?_)
    intro b6
    refine SPL_nil ?_
    refine thenP_n ?_
    refine SP_seq ?_
    refine SP_region ?_
    refine SPL_y (y_assign rfl) rfl ?_
    refine SPL_nil ?_
    refine thenP_n ?_
    refine SP_seq ?_
    refine SP_block ?_
    refine SP_loop (G := Int × Nat × List Value × List UInt8 × List UInt8) (fun g => g.1.toNat) (fun g => [(0, S (s)), (5, .int .u64 g.2.1), (6, .pointer (some ⟨b6, 0, none⟩)), (7, I g.1)]) (fun g => [blk b6 143 g.2.2.1]) (fun g => g.2.2.1 = bytesV (g.2.2.2.1 ++ g.2.2.2.2) ∧ g.1 = g.2.2.2.1.length ∧ g.2.2.2.1.length + g.2.2.2.2.length = 20 ∧ g.2.1 < 10 ^ g.2.2.2.1.length ∧ digs 20 n.natAbs = digs g.2.2.2.1.length g.2.1 ++ g.2.2.2.2 ∧ (g.2.2.2.2 = [] → g.2.1 = n.natAbs) ∧ g.2.1 ≤ n.natAbs) ((20, n.natAbs, bytesV (List.replicate 20 0), List.replicate 20 0, [])) (⟨by simp, by simp, by simp, by simpa using hn0, by simp, fun _ => rfl, Nat.le_refl _⟩) (by repeat (first | exact Sub.nil _ | refine Sub.cons rfl ?_)) (by repeat (first | exact Part.nil _ | (apply Part.cons; (first | exact P0 | exact P1 | exact P2 | exact P3 | exact P4 | exact P5 | exact P6 | exact P7 | exact P8 | exact P9 | exact P10 | exact P11 | exact P12 | exact P13 | exact P14 | exact P15 | exact P16 | exact P17 | exact P18 | exact P19 | exact P20 | exact P21 | exact P22 | exact P23)) | (apply Part.flat; simp only [List.cons_append, List.nil_append]) | (apply Part.nilc))) ?_
    rintro ⟨i, u, cs, pre, t⟩ ⟨hcs, hi, hlen, hu, hd, ht0, hun⟩
    dsimp only at hcs hi hlen hu hd ht0 hun ⊢
    subst hcs
    refine SP_seq ?_
    refine SP_seq ?_
    refine SP_region ?_
    refine SPL_y (y_move rfl) rfl ?_
    refine SPL_ifn (y_gtr rfl rfl) rfl ?_ ?_
    · intro h9_1
      refine SPL_nil ?_
      refine thenP_n ?_
      refine SP_cond_f rfl ?_
      refine SP_exit ?_
      refine thenP_exit ?_
      refine thenP_exit ?_
      refine inBlockP_hit ?_
      refine thenP_n ?_
      refine SP_seq ?_
      refine SP_region ?_
      have hu0 : u = 0 := by omega
      subst hu0
      rw [digs_zero, List.nil_append] at hd
      have htl : 0 < t.length := by
        rcases Nat.eq_zero_or_pos t.length with h0 | h0
        · have := ht0 (List.eq_nil_of_length_eq_zero h0); omega
        · exact h0
      have hcells : ∀ H, Cells (blk b6 143 (bytesV (pre ++ t)) :: H) b6 (0 + i.toNat * 1) (bytesV t) := fun H => Cells.head (by rw [show 0 + i.toNat * 1 = pre.length by omega]; exact bytesV_drop pre t)
      refine SPL_y (y_move rfl) rfl ?_
      refine SPL_y (y_move rfl) rfl ?_
      refine SPL_y (y_arr_lo_ne Tryz.underlying143 Tryz.sizeOf5 rfl rfl (by omega)) rfl ?_
      refine SPL_y (y_b2s Tryz.underlying144 Tryz.underlying5 Tryz.underlying9 rfl (l := t) (by repeat (first | exact hcells _ | apply Cells.tail)) (by omega)) rfl ?_
      refine SPL_y (y_cat rfl rfl (by first | omega | (simp; omega))) rfl ?_
      refine SPL_y (y_cat rfl rfl (by first | omega | (simp; omega))) rfl ?_
      refine SPL_y (y_assign rfl) rfl ?_
      refine SPL_nil ?_
      refine thenP_n ?_
      refine SP_ret ?_
      refine bodyP_ret (H' := []) (Res1 rfl rfl) (by repeat (first | exact Part.nil _ | (apply Part.cons; (first | exact P0 | exact P1 | exact P2 | exact P3 | exact P4 | exact P5 | exact P6 | exact P7 | exact P8 | exact P9 | exact P10 | exact P11 | exact P12 | exact P13 | exact P14 | exact P15 | exact P16 | exact P17 | exact P18 | exact P19 | exact P20 | exact P21 | exact P22 | exact P23)) | (apply Part.flat; simp only [List.cons_append, List.nil_append]) | (apply Part.nilc))) ?_
      refine ⟨?_, rfl⟩
      simp [num, numS, h1_1, h4_1, hd]
    intro h9_1
    refine SPL_nil ?_
    refine thenP_n ?_
    refine SP_cond_t rfl ?_
    refine SP_skip ?_
    refine thenP_n ?_
    refine SP_block ?_
    refine SP_seq ?_
    refine SP_region ?_
    have hp : 0 < pre.length := by
      rcases Nat.eq_zero_or_pos pre.length with h0 | h0
      · rw [h0] at hu; simp at hu; omega
      · exact h0
    have hpl : pre.length = (pre.length - 1) + 1 := by omega
    have hu2 : u / 10 < 10 ^ (pre.length - 1) := by
      rw [hpl, Nat.pow_succ] at hu; omega
    have hdg : digs pre.length u = digs (pre.length - 1) (u / 10) ++ [UInt8.ofNat (48 + u % 10)] := by
      rw [hpl]; simp only [digs]; rw [if_neg (by omega)]; simp
    have hu64 : u < 18446744073709551616 := by omega
    refine SPL_y (y_move rfl) rfl ?_
    refine SPL_y (y_sub rfl rfl (by omega)) rfl ?_
    refine SPL_y (y_assign rfl) rfl ?_
    refine SPL_nil ?_
    refine thenP_n ?_
    refine SP_seq ?_
    refine SP_region ?_
    refine SPL_y (y_move rfl) rfl ?_
    refine SPL_y (y_move rfl) rfl ?_
    refine SPL_y (y_rem rfl rfl (by decide) (show ((u : Int)).tmod 10 = (u : Int) % 10 by rw [Int.tmod_eq_emod_of_nonneg (by omega)])) rfl ?_
    refine SPL_y (y_addw rfl rfl (show IntKind.u64.wrap (48 + (u : Int) % 10) = 48 + (u : Int) % 10 from IntWalk.u64_in _ (by omega))) rfl ?_
    refine SPL_y (y_conv Tryz.underlying142 Tryz.underlying5 rfl (show IntKind.u8.wrap (48 + ((u : Int) % 10)) = ((UInt8.ofNat (48 + u % 10)).toNat : Int) by rw [digit_u8, IntKind.wrap_u8]; omega)) rfl ?_
    refine SPL_y (y_ia_arr Tryz.underlying143 Tryz.sizeOf5 rfl rfl (by omega)) rfl ?_
    refine SPL_one rfl (SP1_store Tryz.sizeOf5 rfl rfl rfl (by first | exact U0 | exact U1 | exact U2 | exact U3 | exact U4 | exact U5 | exact U6 | exact U7 | exact U8 | exact U9 | exact U10 | exact U11 | exact U12 | exact U13 | exact U14 | exact U15 | exact U16 | exact U17 | exact U18 | exact U19 | exact U20 | exact U21 | exact U22 | exact U23) (ble_of (by simp [bytesV]; omega)) ?_)
    refine SPL_nil ?_
    refine thenP_n ?_
    refine SP_region ?_
    refine SPL_y (y_move rfl) rfl ?_
    refine SPL_y (y_quo rfl rfl (by decide) (show IntKind.u64.wrap ((u : Int).tdiv 10) = ((u / 10 : Nat) : Int) by rw [Int.tdiv_eq_ediv_of_nonneg (by omega), IntWalk.u64_in _ (by omega)]; omega)) rfl ?_
    refine SPL_y (y_assign rfl) rfl ?_
    refine SPL_nil ?_
    refine inBlockP_n ?_
    refine thenP_n ?_
    exact Again.intro ((i - 1, u / 10, _, pre.dropLast, UInt8.ofNat (48 + u % 10) :: t)) (⟨bytesV_set hi hp, by simp; omega, by simp; omega, by rw [List.length_dropLast]; exact hu2, by rw [List.length_dropLast, hd, hdg]; simp, by simp, Nat.le_trans (Nat.div_le_self _ _) hun⟩) (by simp only []; omega) (by repeat (first | exact Sub.nil _ | refine Sub.cons rfl ?_)) (by repeat (first | exact Part.nil _ | (apply Part.cons; (first | exact P0 | exact P1 | exact P2 | exact P3 | exact P4 | exact P5 | exact P6 | exact P7 | exact P8 | exact P9 | exact P10 | exact P11 | exact P12 | exact P13 | exact P14 | exact P15 | exact P16 | exact P17 | exact P18 | exact P19 | exact P20 | exact P21 | exact P22 | exact P23)) | (apply Part.flat; simp only [List.cons_append, List.nil_append]) | (apply Part.nilc)))
  intro h4_1
  refine SPL_nil ?_
  refine thenP_n ?_
  refine SP_cond_t rfl ?_
  refine SP_seq ?_
  refine SP_region ?_
  refine SPL_y (y_move rfl) rfl ?_
  refine SPL_y (y_cat rfl rfl (by first | omega | (simp; omega))) rfl ?_
  refine SPL_y (y_assign rfl) rfl ?_
  refine SPL_nil ?_
  refine thenP_n ?_
  refine SP_region ?_
  refine SPL_y (y_move rfl) rfl ?_
  refine SPL_y (y_neg rfl (hc2 h4_1)) rfl ?_
  refine SPL_y (y_assign rfl) rfl ?_
  refine SPL_nil ?_
  refine thenP_n ?_
  refine SP_seq ?_
  have hn0 : n.natAbs < 100000000000000000000 := by omega
  first
    | (have e1 := hc1 (by omega); subst e1)
    | skip
  refine SP_region ?_
  refine SPL_one rfl (SP1_alloc Tryz.zeroValue143 rfl rfl ?_)
  intro b6
  refine SPL_nil ?_
  refine thenP_n ?_
  refine SP_seq ?_
  refine SP_region ?_
  refine SPL_y (y_assign rfl) rfl ?_
  refine SPL_nil ?_
  refine thenP_n ?_
  refine SP_seq ?_
  refine SP_block ?_
  refine SP_loop (G := Int × Nat × List Value × List UInt8 × List UInt8) (fun g => g.1.toNat) (fun g => [(0, S (s ++ [45])), (5, .int .u64 g.2.1), (6, .pointer (some ⟨b6, 0, none⟩)), (7, I g.1)]) (fun g => [blk b6 143 g.2.2.1]) (fun g => g.2.2.1 = bytesV (g.2.2.2.1 ++ g.2.2.2.2) ∧ g.1 = g.2.2.2.1.length ∧ g.2.2.2.1.length + g.2.2.2.2.length = 20 ∧ g.2.1 < 10 ^ g.2.2.2.1.length ∧ digs 20 n.natAbs = digs g.2.2.2.1.length g.2.1 ++ g.2.2.2.2 ∧ (g.2.2.2.2 = [] → g.2.1 = n.natAbs) ∧ g.2.1 ≤ n.natAbs) ((20, n.natAbs, bytesV (List.replicate 20 0), List.replicate 20 0, [])) (⟨by simp, by simp, by simp, by simpa using hn0, by simp, fun _ => rfl, Nat.le_refl _⟩) (by repeat (first | exact Sub.nil _ | refine Sub.cons rfl ?_)) (by repeat (first | exact Part.nil _ | (apply Part.cons; (first | exact P0 | exact P1 | exact P2 | exact P3 | exact P4 | exact P5 | exact P6 | exact P7 | exact P8 | exact P9 | exact P10 | exact P11 | exact P12 | exact P13 | exact P14 | exact P15 | exact P16 | exact P17 | exact P18 | exact P19 | exact P20 | exact P21 | exact P22 | exact P23)) | (apply Part.flat; simp only [List.cons_append, List.nil_append]) | (apply Part.nilc))) ?_
  rintro ⟨i, u, cs, pre, t⟩ ⟨hcs, hi, hlen, hu, hd, ht0, hun⟩
  dsimp only at hcs hi hlen hu hd ht0 hun ⊢
  subst hcs
  refine SP_seq ?_
  refine SP_seq ?_
  refine SP_region ?_
  refine SPL_y (y_move rfl) rfl ?_
  refine SPL_ifn (y_gtr rfl rfl) rfl ?_ ?_
  · intro h9_1
    refine SPL_nil ?_
    refine thenP_n ?_
    refine SP_cond_f rfl ?_
    refine SP_exit ?_
    refine thenP_exit ?_
    refine thenP_exit ?_
    refine inBlockP_hit ?_
    refine thenP_n ?_
    refine SP_seq ?_
    refine SP_region ?_
    have hu0 : u = 0 := by omega
    subst hu0
    rw [digs_zero, List.nil_append] at hd
    have htl : 0 < t.length := by
      rcases Nat.eq_zero_or_pos t.length with h0 | h0
      · have := ht0 (List.eq_nil_of_length_eq_zero h0); omega
      · exact h0
    have hcells : ∀ H, Cells (blk b6 143 (bytesV (pre ++ t)) :: H) b6 (0 + i.toNat * 1) (bytesV t) := fun H => Cells.head (by rw [show 0 + i.toNat * 1 = pre.length by omega]; exact bytesV_drop pre t)
    refine SPL_y (y_move rfl) rfl ?_
    refine SPL_y (y_move rfl) rfl ?_
    refine SPL_y (y_arr_lo_ne Tryz.underlying143 Tryz.sizeOf5 rfl rfl (by omega)) rfl ?_
    refine SPL_y (y_b2s Tryz.underlying144 Tryz.underlying5 Tryz.underlying9 rfl (l := t) (by repeat (first | exact hcells _ | apply Cells.tail)) (by omega)) rfl ?_
    refine SPL_y (y_cat rfl rfl (by first | omega | (simp; omega))) rfl ?_
    refine SPL_y (y_cat rfl rfl (by first | omega | (simp; omega))) rfl ?_
    refine SPL_y (y_assign rfl) rfl ?_
    refine SPL_nil ?_
    refine thenP_n ?_
    refine SP_ret ?_
    refine bodyP_ret (H' := []) (Res1 rfl rfl) (by repeat (first | exact Part.nil _ | (apply Part.cons; (first | exact P0 | exact P1 | exact P2 | exact P3 | exact P4 | exact P5 | exact P6 | exact P7 | exact P8 | exact P9 | exact P10 | exact P11 | exact P12 | exact P13 | exact P14 | exact P15 | exact P16 | exact P17 | exact P18 | exact P19 | exact P20 | exact P21 | exact P22 | exact P23)) | (apply Part.flat; simp only [List.cons_append, List.nil_append]) | (apply Part.nilc))) ?_
    refine ⟨?_, rfl⟩
    simp [num, numS, h1_1, h4_1, hd]
  intro h9_1
  refine SPL_nil ?_
  refine thenP_n ?_
  refine SP_cond_t rfl ?_
  refine SP_skip ?_
  refine thenP_n ?_
  refine SP_block ?_
  refine SP_seq ?_
  refine SP_region ?_
  have hp : 0 < pre.length := by
    rcases Nat.eq_zero_or_pos pre.length with h0 | h0
    · rw [h0] at hu; simp at hu; omega
    · exact h0
  have hpl : pre.length = (pre.length - 1) + 1 := by omega
  have hu2 : u / 10 < 10 ^ (pre.length - 1) := by
    rw [hpl, Nat.pow_succ] at hu; omega
  have hdg : digs pre.length u = digs (pre.length - 1) (u / 10) ++ [UInt8.ofNat (48 + u % 10)] := by
    rw [hpl]; simp only [digs]; rw [if_neg (by omega)]; simp
  have hu64 : u < 18446744073709551616 := by omega
  refine SPL_y (y_move rfl) rfl ?_
  refine SPL_y (y_sub rfl rfl (by omega)) rfl ?_
  refine SPL_y (y_assign rfl) rfl ?_
  refine SPL_nil ?_
  refine thenP_n ?_
  refine SP_seq ?_
  refine SP_region ?_
  refine SPL_y (y_move rfl) rfl ?_
  refine SPL_y (y_move rfl) rfl ?_
  refine SPL_y (y_rem rfl rfl (by decide) (show ((u : Int)).tmod 10 = (u : Int) % 10 by rw [Int.tmod_eq_emod_of_nonneg (by omega)])) rfl ?_
  refine SPL_y (y_addw rfl rfl (show IntKind.u64.wrap (48 + (u : Int) % 10) = 48 + (u : Int) % 10 from IntWalk.u64_in _ (by omega))) rfl ?_
  refine SPL_y (y_conv Tryz.underlying142 Tryz.underlying5 rfl (show IntKind.u8.wrap (48 + ((u : Int) % 10)) = ((UInt8.ofNat (48 + u % 10)).toNat : Int) by rw [digit_u8, IntKind.wrap_u8]; omega)) rfl ?_
  refine SPL_y (y_ia_arr Tryz.underlying143 Tryz.sizeOf5 rfl rfl (by omega)) rfl ?_
  refine SPL_one rfl (SP1_store Tryz.sizeOf5 rfl rfl rfl (by first | exact U0 | exact U1 | exact U2 | exact U3 | exact U4 | exact U5 | exact U6 | exact U7 | exact U8 | exact U9 | exact U10 | exact U11 | exact U12 | exact U13 | exact U14 | exact U15 | exact U16 | exact U17 | exact U18 | exact U19 | exact U20 | exact U21 | exact U22 | exact U23) (ble_of (by simp [bytesV]; omega)) ?_)
  refine SPL_nil ?_
  refine thenP_n ?_
  refine SP_region ?_
  refine SPL_y (y_move rfl) rfl ?_
  refine SPL_y (y_quo rfl rfl (by decide) (show IntKind.u64.wrap ((u : Int).tdiv 10) = ((u / 10 : Nat) : Int) by rw [Int.tdiv_eq_ediv_of_nonneg (by omega), IntWalk.u64_in _ (by omega)]; omega)) rfl ?_
  refine SPL_y (y_assign rfl) rfl ?_
  refine SPL_nil ?_
  refine inBlockP_n ?_
  refine thenP_n ?_
  exact Again.intro ((i - 1, u / 10, _, pre.dropLast, UInt8.ofNat (48 + u % 10) :: t)) (⟨bytesV_set hi hp, by simp; omega, by simp; omega, by rw [List.length_dropLast]; exact hu2, by rw [List.length_dropLast, hd, hdg]; simp, by simp, Nat.le_trans (Nat.div_le_self _ _) hun⟩) (by simp only []; omega) (by repeat (first | exact Sub.nil _ | refine Sub.cons rfl ?_)) (by repeat (first | exact Part.nil _ | (apply Part.cons; (first | exact P0 | exact P1 | exact P2 | exact P3 | exact P4 | exact P5 | exact P6 | exact P7 | exact P8 | exact P9 | exact P10 | exact P11 | exact P12 | exact P13 | exact P14 | exact P15 | exact P16 | exact P17 | exact P18 | exact P19 | exact P20 | exact P21 | exact P22 | exact P23)) | (apply Part.flat; simp only [List.cons_append, List.nil_append]) | (apply Part.nilc)))

end Go.Sl
