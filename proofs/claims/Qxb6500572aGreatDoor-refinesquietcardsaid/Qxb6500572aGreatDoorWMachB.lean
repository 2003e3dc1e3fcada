/- Walks: package mach, writing (made by program out of short notes) -/
import Derived.Test.Qxb6500572aGreatDoorWMach
namespace Go.Sl
open Go Go.Wl Go.Proofs
set_option maxRecDepth 100000
set_option linter.unusedVariables false
set_option linter.unusedSimpArgs false
theorem scat_step {m : Mem} {ea j k n : Nat} {l : List UInt8} (hl : l.length = n) (hj : j + k ≤ n) (hea : ea + n ≤ m.bytes.length) (hk : (ea + j) % 8 + k ≤ 8) (h8 : 8 * ((ea + j) / 8) + 8 ≤ m.bytes.length) :
    (wr m ea (l.take (j + k))).bytes = (wr m ea (l.take j)).bytes.take (8 * ((ea + j) / 8)) ++ ((((wr m ea (l.take j)).bytes.drop (8 * ((ea + j) / 8))).take 8).take ((ea + j) % 8) ++ (l.drop j).take k ++ (((wr m ea (l.take j)).bytes.drop (8 * ((ea + j) / 8))).take 8).drop ((ea + j) % 8 + k)) ++ (wr m ea (l.take j)).bytes.drop (8 * ((ea + j) / 8) + 8) := by
  have h3 : ((l.drop j).take k).length = k := by simp; omega
  have h4 : (wr m ea (l.take j)).bytes.length = m.bytes.length := wr_len (by simp; omega)
  rw [wr_succ (by omega) (by omega), wr_page (by omega) (by omega), h3]

theorem mach_scatter (b : Nat) (m : Mem) (s : Seg) (ea bb o n c : Nat) (T : TypeId) (B l : List UInt8) (hm : isMach b m s) (hB : o + n ≤ B.length) (hc : n ≤ c) (hl : l = (B.drop o).take n) (hea : ea + n ≤ m.bytes.length) :
    Spec Tryz.prog 147 [.pointer (some ⟨b, 0, none⟩), I ea, .slice (some ⟨bb, o, none⟩) n c] [s, blk bb T (bytesV B)] (Ret fun v H => v = .tuple #[] ∧ ∃ s', H = [s', blk bb T (bytesV B)] ∧ isMach b (wr m ea l) s') := by
  obtain ⟨pa, pc, pg, sp, sg, rfl, ap, hg, hpm, hm4⟩ := hm
  have hgl := hg.len
  refine Spec_flat ?_
  simp only [List.cons_append, List.nil_append]
  obtain ⟨np, hnp⟩ : ∃ np, pg.length = np := ⟨_, rfl⟩
  rw [hnp] at ap hpm hgl ⊢
  have hln : l.length = n := by rw [hl]; simp; omega
  refine Spec_enter Tryz.func147 rfl Tryz.ntmps147 rfl ?_
  show SP _ _ _ _ _ [(0, _), (1, _), (2, _)] _
  refine SP_block ?_
  refine SP_loop (G := Nat × Addr × Nat × Nat × List (Option Nat) × Seg × Seg × Int) (fun g => n - g.1) (fun g => [(0, .pointer (some ⟨b, 0, none⟩)), (1, I ((ea + g.1 : Nat) : Int)), (2, .slice (some g.2.1) g.2.2.1 g.2.2.2.1)]) (fun g => [blk b 102 [.slice pa np pc, I m.max, I g.2.2.2.2.2.2.2], g.2.2.2.2.2.1, g.2.2.2.2.2.2.1, blk bb T (bytesV B)]) (fun g => (g.1 ≤ n ∧ g.2.2.1 = n - g.1 ∧ g.2.2.2.1 = c - g.1 ∧ (g.1 < n → g.2.1 = ⟨bb, o + g.1, none⟩)) ∧ g.2.2.2.2.1.length = np ∧ Arr 184 1 pa np pc (g.2.2.2.2.1.map ptrV) g.2.2.2.2.2.1 ∧ Pages g.2.2.2.2.1 (wr m ea (l.take g.1)).bytes g.2.2.2.2.2.2.1 ∧ g.2.2.2.2.2.2.2 = (g.2.2.2.2.1.countP Option.isSome : Nat)) ((0, ⟨bb, o, none⟩, n, c, pg, sp, sg, ((pg.countP Option.isSome : Nat) : Int))) (⟨⟨Nat.zero_le _, rfl, rfl, fun _ => rfl⟩, hnp, ap, by rw [List.take_zero, wr_nil]; exact hg, rfl⟩) (by repeat (first | exact Sub.nil _ | refine Sub.cons rfl ?_)) (by repeat (first | exact Part.nil _ | (apply Part.cons; (first | exact P0 | exact P1 | exact P2 | exact P3 | exact P4 | exact P5 | exact P6 | exact P7 | exact P8 | exact P9 | exact P10 | exact P11 | exact P12 | exact P13 | exact P14 | exact P15 | exact P16 | exact P17 | exact P18 | exact P19 | exact P20 | exact P21 | exact P22 | exact P23)) | (apply Part.flat; simp only [List.cons_append, List.nil_append]) | (apply Part.nilc))) ?_
  rintro ⟨j, wa, r, cc, pg', sp', sg', cnt⟩ ⟨⟨hj, hr, hcc, hwa⟩, hnp', ap', hg', hcnt⟩
  dsimp only at hj hr hcc hwa hnp' ap' hg' hcnt ⊢
  refine SP_seq ?_
  refine SP_seq ?_
  refine SP_region ?_
  refine SPL_y (y_move rfl) rfl ?_
  refine SPL_y (y_len_l Tryz.underlying144 rfl) rfl ?_
  refine SPL_ifn (y_gtr rfl rfl) rfl ?_ ?_
  · intro h0_2
    refine SPL_nil ?_
    refine thenP_n ?_
    refine SP_cond_f rfl ?_
    refine SP_exit ?_
    refine thenP_exit ?_
    refine thenP_exit ?_
    refine inBlockP_hit ?_
    refine bodyP_end (H' := [List.flatten [blk b 102 [.slice pa np pc, I m.max, I cnt], sp', sg'], blk bb T (bytesV B)]) (Res0 rfl) (by repeat (first | exact Part.nil _ | (apply Part.cons; (first | exact P0 | exact P1 | exact P2 | exact P3 | exact P4 | exact P5 | exact P6 | exact P7 | exact P8 | exact P9 | exact P10 | exact P11 | exact P12 | exact P13 | exact P14 | exact P15 | exact P16 | exact P17 | exact P18 | exact P19 | exact P20 | exact P21 | exact P22 | exact P23)) | (apply Part.flat; simp only [List.cons_append, List.nil_append]) | (apply Part.nilc))) ?_
    obtain rfl : j = n := by omega
    rw [List.take_of_length_le (by omega)] at hg'
    exact ⟨rfl, _, rfl, pa, pc, pg', sp', sg', by rw [hnp', hcnt]; rfl, by rw [hnp']; exact ap', hg', by rw [hnp']; exact hpm, hm4⟩
  intro h0_2
  refine SPL_nil ?_
  refine thenP_n ?_
  refine SP_cond_t rfl ?_
  refine SP_skip ?_
  refine thenP_n ?_
  refine SP_block ?_
  refine SP_seq ?_
  refine SP_region ?_
  have hjn : j < n := by omega
  obtain rfl := hwa hjn
  have hi : (ea + j) / 8 < pg'.length := by omega
  have hcp := List.countP_le_length (p := Option.isSome) (l := pg')
  obtain ⟨bp, spp, rfl, hpc, hspp, rfl⟩ := ap'.row (by omega)
  refine SPL_y (y_move rfl) rfl ?_
  refine SPL_one rfl (SP1_call (mach_split (ea + j) (by omega)) Tryz.call91 rfl rfl (by repeat (first | exact Part.nil _ | (apply Part.cons; (first | exact P0 | exact P1 | exact P2 | exact P3 | exact P4 | exact P5 | exact P6 | exact P7 | exact P8 | exact P9 | exact P10 | exact P11 | exact P12 | exact P13 | exact P14 | exact P15 | exact P16 | exact P17 | exact P18 | exact P19 | exact P20 | exact P21 | exact P22 | exact P23)) | (apply Part.flat; simp only [List.cons_append, List.nil_append]) | (apply Part.nilc))) ?_)
  rintro v post H' ⟨rfl, rfl⟩ hH
  simp only [List.cons_append, List.nil_append] at hH
  subst hH
  refine SPL_y (y_move rfl) rfl ?_
  refine SPL_y (y_ext rfl rfl) rfl ?_
  refine SPL_y (y_ext rfl rfl) rfl ?_
  refine SPL_y (y_assign rfl) rfl ?_
  refine SPL_y (y_assign rfl) rfl ?_
  refine SPL_nil ?_
  refine thenP_n ?_
  refine SP_seq ?_
  refine SP_seq ?_
  refine SP_region ?_
  refine SPL_y (y_move rfl) rfl ?_
  refine SPL_y (y_nil rfl) rfl ?_
  refine SPL_y (y_fa fld_102_0 rfl) rfl ?_
  refine SPL_y (y_load Tryz.isAgg100 rfl (by repeat (first | exact Cell.head rfl | apply Cell.tail))) rfl ?_
  refine SPL_y (y_move rfl) rfl ?_
  refine SPL_y (y_ia Tryz.underlying100 Tryz.sizeOf184 rfl rfl (by omega)) rfl ?_
  refine SPL_y (y_load Tryz.isAgg184 rfl (by repeat (first | exact Cell.head (row1 (i := (ea + j) / 8) (by simp) hi) | apply Cell.tail))) rfl ?_
  refine SPL_ifn (y_peq_nil Tryz.underlying184 rfl rfl) rfl ?_ ?_
  · intro h2_7
    refine SPL_nil ?_
    refine thenP_n ?_
    refine SP_cond_f rfl ?_
    refine SP_skip ?_
    refine thenP_n ?_
    refine SP_seq ?_
    obtain ⟨pb, hpx⟩ : ∃ x, pg'[(ea + j) / 8] = some x := by
      rcases hx : pg'[(ea + j) / 8] with _ | x
      · rw [hx] at h2_7; exact absurd rfl h2_7
      · exact ⟨x, rfl⟩
    obtain ⟨pgx, hpgx⟩ : ∃ x, pg' = x := ⟨_, rfl⟩
    obtain ⟨sgx, hsgx⟩ : ∃ x, sg' = x := ⟨_, rfl⟩
    obtain ⟨cntx, hcnte⟩ : ∃ x, cnt = x := ⟨_, rfl⟩
    subst hpgx hsgx hcnte
    have hnpx := hnp'
    have hix := hi
    have hgx := hg'
    have hcntx := hcnt
    refine SP_region ?_
    refine SPL_y (y_move rfl) rfl ?_
    refine SPL_y (y_nil rfl) rfl ?_
    refine SPL_y (y_fa fld_102_0 rfl) rfl ?_
    refine SPL_y (y_load Tryz.isAgg100 rfl (by repeat (first | exact Cell.head rfl | apply Cell.tail))) rfl ?_
    refine SPL_y (y_move rfl) rfl ?_
    refine SPL_y (y_ia Tryz.underlying100 Tryz.sizeOf184 rfl rfl (by omega)) rfl ?_
    refine SPL_y (y_load Tryz.isAgg184 rfl (by repeat (first | exact Cell.head (row1 (i := (ea + j) / 8) (by simp) hix) | apply Cell.tail))) rfl ?_
    obtain ⟨s1, s2, hs12, hput⟩ := hgx.put hix hpx
    have hpl : ((((wr m ea (l.take j)).bytes).drop (8 * ((ea + j) / 8))).take 8).length = 8 := by rw [List.length_take, List.length_drop, wr_len (by simp; omega)]; omega
    obtain ⟨k, hk⟩ : ∃ k : Nat, min r (8 - (((ea + j) % 8 : Nat) : Int).toNat) = k := ⟨_, rfl⟩
    have hk1 : k ≤ r ∧ k ≤ 8 - (ea + j) % 8 ∧ 0 < k := by rw [Int.toNat_natCast] at hk; omega
    have hat : 0 + (((ea + j) % 8 : Nat) : Int).toNat * 1 = (ea + j) % 8 := by rw [Int.toNat_natCast]; omega
    rw [hpx]
    have hnew := hput (((((wr m ea (l.take j)).bytes).drop (8 * ((ea + j) / 8))).take 8).take ((ea + j) % 8) ++ (l.drop j).take k ++ ((((wr m ea (l.take j)).bytes).drop (8 * ((ea + j) / 8))).take 8).drop ((ea + j) % 8 + k)) (by simp only [List.length_append, List.length_take, List.length_drop, wr_len (show ea + (l.take j).length ≤ m.bytes.length by simp; omega)]; omega)
    rw [← scat_step hln (by omega) hea (by omega) (by omega)] at hnew
    rw [hs12]
    refine SPL_open (pre := [s1, blk pb 5 (bytesV ((((wr m ea (l.take j)).bytes).drop (8 * ((ea + j) / 8))).take 8)), s2]) (by first | exact P0 | exact P1 | exact P2 | exact P3 | exact P4 | exact P5 | exact P6 | exact P7 | exact P8 | exact P9 | exact P10 | exact P11 | exact P12 | exact P13 | exact P14 | exact P15 | exact P16 | exact P17 | exact P18 | exact P19 | exact P20 | exact P21 | exact P22 | exact P23) ?_
    simp only [List.cons_append, List.nil_append]
    refine SPL_y (y_nil rfl) rfl ?_
    refine SPL_y (y_move rfl) rfl ?_
    refine SPL_y (y_arr_lo_ne Tryz.underlying146 Tryz.sizeOf5 rfl rfl (by omega)) rfl ?_
    refine SPL_y (y_move rfl) rfl ?_
    refine SPL_one rfl (SP1_copy el_144 rfl rfl (Src.slice (k := 1) (vs := bytesV (l.drop j)) (by rw [bytesV_len, List.length_drop]; omega) (by repeat (first | exact Cells.head (by rw [bytesV_len, List.length_drop, bytesV_drop', bytesV_take, hl, List.drop_take, List.drop_drop]; congr 2; simp; omega) | apply Cells.tail))) (bytesV_one _) (by first | exact U0 | exact U1 | exact U2 | exact U3 | exact U4 | exact U5 | exact U6 | exact U7 | exact U8 | exact U9 | exact U10 | exact U11 | exact U12 | exact U13 | exact U14 | exact U15 | exact U16 | exact U17 | exact U18 | exact U19 | exact U20 | exact U21 | exact U22 | exact U23) (by rw [bytesV_len, hpl]; omega) (l' := bytesV (((((wr m ea (l.take j)).bytes).drop (8 * ((ea + j) / 8))).take 8).take ((ea + j) % 8) ++ (l.drop j).take k ++ ((((wr m ea (l.take j)).bytes).drop (8 * ((ea + j) / 8))).take 8).drop ((ea + j) % 8 + k))) (by rw [hk, hat, Nat.mul_one, bytesV_append, bytesV_append, bytesV_take, bytesV_take, bytesV_drop']) rfl ?_)
    rw [hk]
    refine SPL_y (y_assign rfl) rfl ?_
    refine SPL_nil ?_
    refine thenP_n ?_
    refine SP_region ?_
    refine SPL_y (y_move rfl) rfl ?_
    refine SPL_y (y_move rfl) rfl ?_
    refine SPL_y (y_from Tryz.underlying144 Tryz.sizeOf5 rfl rfl (by omega)) rfl ?_
    refine SPL_y (y_move rfl) rfl ?_
    refine SPL_y (y_move rfl) rfl ?_
    refine SPL_y (y_addE rfl rfl (by omega) (show _ = ((ea + (j + k) : Nat) : Int) by omega)) rfl ?_
    refine SPL_y (y_assign rfl) rfl ?_
    refine SPL_y (y_assign rfl) rfl ?_
    refine SPL_nil ?_
    refine inBlockP_n ?_
    refine thenP_n ?_
    exact Again.intro ((j + k, (if cc = ((k : Nat) : Int).toNat then ⟨bb, o + j, none⟩ else ⟨bb, o + j + ((k : Nat) : Int).toNat * 1, none⟩), r - k, cc - k, pg', blk bp 184 (pg'.map ptrV ++ spp), List.flatten [s1, blk pb 5 (bytesV (((((wr m ea (l.take j)).bytes).drop (8 * ((ea + j) / 8))).take 8).take ((ea + j) % 8) ++ (l.drop j).take k ++ ((((wr m ea (l.take j)).bytes).drop (8 * ((ea + j) / 8))).take 8).drop ((ea + j) % 8 + k))), s2], cnt)) (⟨⟨by dsimp only; omega, by dsimp only; omega, by dsimp only; omega, fun h => (if_neg (by dsimp only at h; rw [Int.toNat_natCast]; omega)).trans (by rw [Int.toNat_natCast, Nat.mul_one, Nat.add_assoc])⟩, hnpx, Arr.mk (by simp; omega) hpc hspp, hnew, hcntx⟩) (by simp only []; omega) (by repeat (first | exact Sub.nil _ | refine Sub.cons rfl ?_)) (by repeat (first | exact Part.nil _ | (apply Part.cons; (first | exact P0 | exact P1 | exact P2 | exact P3 | exact P4 | exact P5 | exact P6 | exact P7 | exact P8 | exact P9 | exact P10 | exact P11 | exact P12 | exact P13 | exact P14 | exact P15 | exact P16 | exact P17 | exact P18 | exact P19 | exact P20 | exact P21 | exact P22 | exact P23)) | (apply Part.flat; simp only [List.cons_append, List.nil_append]) | (apply Part.nilc)))
  intro h2_7
  refine SPL_nil ?_
  refine thenP_n ?_
  refine SP_cond_t rfl ?_
  refine SP_seq ?_
  have hpi : pg'[(ea + j) / 8] = none := Option.map_eq_none_iff.1 h2_7
  refine SP_draw 8 [(0, 0), (1, 0), (2, 0), (4, 0), (3, 1), (5, 2), (6, 0), (7, 0), (8, 3)] mixed (by kernel_rfl) (fun _ _ _ _ _ h => h) (Part.refl _) ?_
  refine SPO_p rfl (y_move rfl) rfl ?_
  refine SPO_p rfl (y_nil rfl) rfl ?_
  refine SPO_p rfl (y_fa fld_102_0 rfl) rfl ?_
  refine SPO_p rfl (y_move rfl) rfl ?_
  refine SPO_h rfl (y_load Tryz.isAgg100 rfl (by repeat (first | exact Cell.head rfl | apply Cell.tail))) rfl ?_
  refine SPO_a rfl rfl (SP1_make (m := 8) el_144 rfl (by decide) rfl ?_)
  intro bn
  refine ⟨⟨_, (by repeat (first | exact Part.nil _ | (apply Part.cons; (first | exact P0 | exact P1 | exact P2 | exact P3 | exact P4 | exact P5 | exact P6 | exact P7 | exact P8 | exact P9 | exact P10 | exact P11 | exact P12 | exact P13 | exact P14 | exact P15 | exact P16 | exact P17 | exact P18 | exact P19 | exact P20 | exact P21 | exact P22 | exact P23)) | (apply Part.flat; simp only [List.cons_append, List.nil_append]) | (apply Part.nilc)))⟩, ?_⟩
  refine SPO_p rfl (y_toArr Tryz.underlying146 rfl (by omega)) rfl ?_
  refine SPO_p rfl (y_ia Tryz.underlying100 Tryz.sizeOf184 rfl rfl (by omega)) rfl ?_
  refine SPO_z (k := 0) rfl rfl (SP1_store Tryz.sizeOf184 rfl rfl rfl (by first | exact U0 | exact U1 | exact U2 | exact U3 | exact U4 | exact U5 | exact U6 | exact U7 | exact U8 | exact U9 | exact U10 | exact U11 | exact U12 | exact U13 | exact U14 | exact U15 | exact U16 | exact U17 | exact U18 | exact U19 | exact U20 | exact U21 | exact U22 | exact U23) (ble_of (by simp; omega)) ?_)
  refine SPO_nil ?_
  refine thenP_n ?_
  refine SP_region ?_
  refine SPL_y (y_move rfl) rfl ?_
  refine SPL_y (y_nil rfl) rfl ?_
  refine SPL_y (y_fa fld_102_2 rfl) rfl ?_
  refine SPL_y (y_load Tryz.isAgg3 rfl (by repeat (first | exact Cell.head rfl | apply Cell.tail))) rfl ?_
  refine SPL_y (y_add rfl rfl (by omega)) rfl ?_
  refine SPL_y (y_nil rfl) rfl ?_
  refine SPL_y (y_fa fld_102_2 rfl) rfl ?_
  refine SPL_one rfl (SP1_store Tryz.sizeOf3 rfl rfl rfl (by first | exact U0 | exact U1 | exact U2 | exact U3 | exact U4 | exact U5 | exact U6 | exact U7 | exact U8 | exact U9 | exact U10 | exact U11 | exact U12 | exact U13 | exact U14 | exact U15 | exact U16 | exact U17 | exact U18 | exact U19 | exact U20 | exact U21 | exact U22 | exact U23) (by rfl) ?_)
  refine SPL_nil ?_
  refine thenP_n ?_
  refine SP_seq ?_
  obtain ⟨q1, q2, rfl, hgx, hcx⟩ := hg'.made hi hpi bn
  refine SP_open (pre := [q1, q2]) (by first | exact P0 | exact P1 | exact P2 | exact P3 | exact P4 | exact P5 | exact P6 | exact P7 | exact P8 | exact P9 | exact P10 | exact P11 | exact P12 | exact P13 | exact P14 | exact P15 | exact P16 | exact P17 | exact P18 | exact P19 | exact P20 | exact P21 | exact P22 | exact P23) ?_
  simp only [List.cons_append, List.nil_append]
  rw [show (pg'.map ptrV ++ spp).set (0 + (((ea + j) / 8 : Nat) : Int).toNat * 1) (Value.pointer (some ⟨bn, 0, none⟩)) = (pg'.set ((ea + j) / 8) (some bn)).map ptrV ++ spp from row1_set (f := ptrV) (x := some bn) (i := (ea + j) / 8) (by simp) hi]
  obtain ⟨pgx, hpgx⟩ : ∃ x, pg'.set ((ea + j) / 8) (some bn) = x := ⟨_, rfl⟩
  have hnpx : pgx.length = np := by rw [← hpgx]; simpa using hnp'
  have hix : (ea + j) / 8 < pgx.length := by omega
  have hpx : pgx[(ea + j) / 8] = some bn := by simp [← hpgx]
  rw [hpgx] at hgx hcx ⊢
  obtain ⟨sgx, hsgx⟩ : ∃ x, List.flatten [q1, blk bn 5 (bytesV (List.replicate 8 0)), q2] = x := ⟨_, rfl⟩
  obtain ⟨cntx, hcnte⟩ : ∃ x, cnt + 1 = x := ⟨_, rfl⟩
  rw [hcnte]
  have hcntx : cntx = (pgx.countP Option.isSome : Nat) := by rw [← hcnte, hcnt, hcx]; simp
  refine SP_part (H' := [blk b 102 [.slice (some ⟨bp, 0, none⟩) np pc, I m.max, I cntx], blk bp 184 (pgx.map ptrV ++ spp), List.flatten [q1, blk bn 5 (bytesV (List.replicate 8 0)), q2], blk bb T (bytesV B)]) (by repeat (first | exact Part.nil _ | (apply Part.cons; (first | exact P0 | exact P1 | exact P2 | exact P3 | exact P4 | exact P5 | exact P6 | exact P7 | exact P8 | exact P9 | exact P10 | exact P11 | exact P12 | exact P13 | exact P14 | exact P15 | exact P16 | exact P17 | exact P18 | exact P19 | exact P20 | exact P21 | exact P22 | exact P23)) | (apply Part.flat; simp only [List.cons_append, List.nil_append]) | (apply Part.nilc))) ?_
  rw [hsgx] at hgx ⊢
  obtain ⟨pb, hpb⟩ : ∃ x, bn = x := ⟨_, rfl⟩
  rw [hpb] at hpx
  refine SP_region ?_
  refine SPL_y (y_move rfl) rfl ?_
  refine SPL_y (y_nil rfl) rfl ?_
  refine SPL_y (y_fa fld_102_0 rfl) rfl ?_
  refine SPL_y (y_load Tryz.isAgg100 rfl (by repeat (first | exact Cell.head rfl | apply Cell.tail))) rfl ?_
  refine SPL_y (y_move rfl) rfl ?_
  refine SPL_y (y_ia Tryz.underlying100 Tryz.sizeOf184 rfl rfl (by omega)) rfl ?_
  refine SPL_y (y_load Tryz.isAgg184 rfl (by repeat (first | exact Cell.head (row1 (i := (ea + j) / 8) (by simp) hix) | apply Cell.tail))) rfl ?_
  obtain ⟨s1, s2, hs12, hput⟩ := hgx.put hix hpx
  have hpl : ((((wr m ea (l.take j)).bytes).drop (8 * ((ea + j) / 8))).take 8).length = 8 := by rw [List.length_take, List.length_drop, wr_len (by simp; omega)]; omega
  obtain ⟨k, hk⟩ : ∃ k : Nat, min r (8 - (((ea + j) % 8 : Nat) : Int).toNat) = k := ⟨_, rfl⟩
  have hk1 : k ≤ r ∧ k ≤ 8 - (ea + j) % 8 ∧ 0 < k := by rw [Int.toNat_natCast] at hk; omega
  have hat : 0 + (((ea + j) % 8 : Nat) : Int).toNat * 1 = (ea + j) % 8 := by rw [Int.toNat_natCast]; omega
  rw [hpx]
  have hnew := hput (((((wr m ea (l.take j)).bytes).drop (8 * ((ea + j) / 8))).take 8).take ((ea + j) % 8) ++ (l.drop j).take k ++ ((((wr m ea (l.take j)).bytes).drop (8 * ((ea + j) / 8))).take 8).drop ((ea + j) % 8 + k)) (by simp only [List.length_append, List.length_take, List.length_drop, wr_len (show ea + (l.take j).length ≤ m.bytes.length by simp; omega)]; omega)
  rw [← scat_step hln (by omega) hea (by omega) (by omega)] at hnew
  rw [hs12]
  refine SPL_open (pre := [s1, blk pb 5 (bytesV ((((wr m ea (l.take j)).bytes).drop (8 * ((ea + j) / 8))).take 8)), s2]) (by first | exact P0 | exact P1 | exact P2 | exact P3 | exact P4 | exact P5 | exact P6 | exact P7 | exact P8 | exact P9 | exact P10 | exact P11 | exact P12 | exact P13 | exact P14 | exact P15 | exact P16 | exact P17 | exact P18 | exact P19 | exact P20 | exact P21 | exact P22 | exact P23) ?_
  simp only [List.cons_append, List.nil_append]
  refine SPL_y (y_nil rfl) rfl ?_
  refine SPL_y (y_move rfl) rfl ?_
  refine SPL_y (y_arr_lo_ne Tryz.underlying146 Tryz.sizeOf5 rfl rfl (by omega)) rfl ?_
  refine SPL_y (y_move rfl) rfl ?_
  refine SPL_one rfl (SP1_copy el_144 rfl rfl (Src.slice (k := 1) (vs := bytesV (l.drop j)) (by rw [bytesV_len, List.length_drop]; omega) (by repeat (first | exact Cells.head (by rw [bytesV_len, List.length_drop, bytesV_drop', bytesV_take, hl, List.drop_take, List.drop_drop]; congr 2; simp; omega) | apply Cells.tail))) (bytesV_one _) (by first | exact U0 | exact U1 | exact U2 | exact U3 | exact U4 | exact U5 | exact U6 | exact U7 | exact U8 | exact U9 | exact U10 | exact U11 | exact U12 | exact U13 | exact U14 | exact U15 | exact U16 | exact U17 | exact U18 | exact U19 | exact U20 | exact U21 | exact U22 | exact U23) (by rw [bytesV_len, hpl]; omega) (l' := bytesV (((((wr m ea (l.take j)).bytes).drop (8 * ((ea + j) / 8))).take 8).take ((ea + j) % 8) ++ (l.drop j).take k ++ ((((wr m ea (l.take j)).bytes).drop (8 * ((ea + j) / 8))).take 8).drop ((ea + j) % 8 + k))) (by rw [hk, hat, Nat.mul_one, bytesV_append, bytesV_append, bytesV_take, bytesV_take, bytesV_drop']) rfl ?_)
  rw [hk]
  refine SPL_y (y_assign rfl) rfl ?_
  refine SPL_nil ?_
  refine thenP_n ?_
  refine SP_region ?_
  refine SPL_y (y_move rfl) rfl ?_
  refine SPL_y (y_move rfl) rfl ?_
  refine SPL_y (y_from Tryz.underlying144 Tryz.sizeOf5 rfl rfl (by omega)) rfl ?_
  refine SPL_y (y_move rfl) rfl ?_
  refine SPL_y (y_move rfl) rfl ?_
  refine SPL_y (y_addE rfl rfl (by omega) (show _ = ((ea + (j + k) : Nat) : Int) by omega)) rfl ?_
  refine SPL_y (y_assign rfl) rfl ?_
  refine SPL_y (y_assign rfl) rfl ?_
  refine SPL_nil ?_
  refine inBlockP_n ?_
  refine thenP_n ?_
  exact Again.intro ((j + k, (if cc = ((k : Nat) : Int).toNat then ⟨bb, o + j, none⟩ else ⟨bb, o + j + ((k : Nat) : Int).toNat * 1, none⟩), r - k, cc - k, pgx, blk bp 184 (pgx.map ptrV ++ spp), List.flatten [s1, blk pb 5 (bytesV (((((wr m ea (l.take j)).bytes).drop (8 * ((ea + j) / 8))).take 8).take ((ea + j) % 8) ++ (l.drop j).take k ++ ((((wr m ea (l.take j)).bytes).drop (8 * ((ea + j) / 8))).take 8).drop ((ea + j) % 8 + k))), s2], cntx)) (⟨⟨by dsimp only; omega, by dsimp only; omega, by dsimp only; omega, fun h => (if_neg (by dsimp only at h; rw [Int.toNat_natCast]; omega)).trans (by rw [Int.toNat_natCast, Nat.mul_one, Nat.add_assoc])⟩, hnpx, Arr.mk (by simp; omega) hpc hspp, hnew, hcntx⟩) (by simp only []; omega) (by repeat (first | exact Sub.nil _ | refine Sub.cons rfl ?_)) (by repeat (first | exact Part.nil _ | (apply Part.cons; (first | exact P0 | exact P1 | exact P2 | exact P3 | exact P4 | exact P5 | exact P6 | exact P7 | exact P8 | exact P9 | exact P10 | exact P11 | exact P12 | exact P13 | exact P14 | exact P15 | exact P16 | exact P17 | exact P18 | exact P19 | exact P20 | exact P21 | exact P22 | exact P23)) | (apply Part.flat; simp only [List.cons_append, List.nil_append]) | (apply Part.nilc)))

end Go.Sl
