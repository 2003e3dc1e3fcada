/- Walks: package mach, loads and stores (made by program out of short notes) -/
import Derived.Test.Qxb6500572aGreatDoorWMachB
namespace Go.Sl
open Go Go.Wl Go.Proofs
set_option maxRecDepth 100000
set_option linter.unusedVariables false
set_option linter.unusedSimpArgs false
theorem mach_le16 (bb o : Nat) (T : TypeId) (B : List UInt8) (b0 b1 : UInt8) (h0 : B[o]? = some b0) (h1 : B[o + 1]? = some b1) : Spec Tryz.prog 63 [.pointer (some ⟨bb, o, none⟩)] [blk bb T (bytesV B)] (Ret fun v H => v = .int .u16 (le16 b0 b1) ∧ H = [blk bb T (bytesV B)]) := by
  refine Spec_enter Tryz.func63 rfl Tryz.ntmps63 rfl ?_
  show SP _ _ _ _ _ [(0, _)] _
  refine SP_seq ?_
  refine SP_region ?_
  refine SPL_y (y_assign rfl) rfl ?_
  refine SPL_nil ?_
  refine thenP_n ?_
  refine SP_seq ?_
  refine SP_draw 999 [(0, 0), (1, 0), (2, 0), (5, 0), (6, 0), (7, 0), (3, 1), (4, 0), (8, 1), (9, 0), (10, 0), (11, 0), (12, 0)] mixed (by kernel_rfl) (fun _ _ _ _ _ h => h) (Part.refl _) ?_
  refine SPO_p rfl (y_move rfl) rfl ?_
  refine SPO_p rfl (y_nil rfl) rfl ?_
  refine SPO_p rfl (y_ia_arr Tryz.underlying306 Tryz.sizeOf5 rfl rfl (by omega)) rfl ?_
  refine SPO_p rfl (y_move rfl) rfl ?_
  refine SPO_p rfl (y_nil rfl) rfl ?_
  refine SPO_p rfl (y_ia_arr Tryz.underlying306 Tryz.sizeOf5 rfl rfl (by omega)) rfl ?_
  refine SPO_h rfl (y_load Tryz.isAgg5 rfl (Cell.head (by simpa [bytesV] using ⟨b0, h0, rfl⟩))) rfl ?_
  refine SPO_p rfl (y_conv Tryz.underlying5 Tryz.underlying148 rfl rfl) rfl ?_
  refine SPO_h rfl (y_load Tryz.isAgg5 rfl (Cell.head (by simpa [bytesV] using ⟨b1, h1, rfl⟩))) rfl ?_
  refine SPO_p rfl (y_conv Tryz.underlying5 Tryz.underlying148 rfl rfl) rfl ?_
  refine SPO_p rfl (y_shl rfl rfl (by first | omega | decide) rfl) rfl ?_
  refine SPO_p rfl (y_or rfl rfl rfl) rfl ?_
  refine SPO_p rfl (y_assign rfl) rfl ?_
  refine SPO_nil ?_
  refine thenP_n ?_
  refine SP_ret ?_
  refine bodyP_ret (H' := [blk bb T (bytesV B)]) (Res1 rfl rfl) (by repeat (first | exact Part.nil _ | (apply Part.cons; (first | exact P0 | exact P1 | exact P2 | exact P3 | exact P4 | exact P5 | exact P6 | exact P7 | exact P8 | exact P9 | exact P10 | exact P11 | exact P12 | exact P13 | exact P14 | exact P15 | exact P16 | exact P17 | exact P18 | exact P19 | exact P20 | exact P21 | exact P22 | exact P23)) | (apply Part.flat; simp only [List.cons_append, List.nil_append]) | (apply Part.nilc))) ?_
  exact ⟨rfl, rfl⟩

theorem mach_le32 (b0 b1 b2 b3 : UInt8) : Spec Tryz.prog 64 [.agg (bytesV [b0, b1, b2, b3]).toArray] [] (Ret fun v H => v = .int .u32 (le32 b0 b1 b2 b3) ∧ H = []) := by
  refine Spec_enter Tryz.func64 rfl Tryz.ntmps64 rfl ?_
  show SP _ _ _ _ _ [(0, _)] _
  refine SP_seq ?_
  refine SP_region ?_
  refine SPL_one rfl (SP1_box rfl rfl rfl ?_)
  intro b1
  refine SPL_y (y_assign rfl) rfl ?_
  refine SPL_nil ?_
  refine thenP_n ?_
  refine SP_seq ?_
  refine SP_region ?_
  refine SPL_y (y_ia_arr Tryz.underlying153 Tryz.sizeOf5 rfl rfl (by omega)) rfl ?_
  refine SPL_y (y_load Tryz.isAgg5 rfl (by repeat (first | exact Cell.head rfl | apply Cell.tail))) rfl ?_
  refine SPL_y (y_conv Tryz.underlying5 Tryz.underlying151 rfl rfl) rfl ?_
  refine SPL_y (y_ia_arr Tryz.underlying153 Tryz.sizeOf5 rfl rfl (by omega)) rfl ?_
  refine SPL_y (y_load Tryz.isAgg5 rfl (by repeat (first | exact Cell.head rfl | apply Cell.tail))) rfl ?_
  refine SPL_y (y_conv Tryz.underlying5 Tryz.underlying151 rfl rfl) rfl ?_
  refine SPL_y (y_shl rfl rfl (by first | omega | decide) rfl) rfl ?_
  refine SPL_y (y_or rfl rfl rfl) rfl ?_
  refine SPL_y (y_ia_arr Tryz.underlying153 Tryz.sizeOf5 rfl rfl (by omega)) rfl ?_
  refine SPL_y (y_load Tryz.isAgg5 rfl (by repeat (first | exact Cell.head rfl | apply Cell.tail))) rfl ?_
  refine SPL_y (y_conv Tryz.underlying5 Tryz.underlying151 rfl rfl) rfl ?_
  refine SPL_y (y_shl rfl rfl (by first | omega | decide) rfl) rfl ?_
  refine SPL_y (y_or rfl rfl rfl) rfl ?_
  refine SPL_y (y_ia_arr Tryz.underlying153 Tryz.sizeOf5 rfl rfl (by omega)) rfl ?_
  refine SPL_y (y_load Tryz.isAgg5 rfl (by repeat (first | exact Cell.head rfl | apply Cell.tail))) rfl ?_
  refine SPL_y (y_conv Tryz.underlying5 Tryz.underlying151 rfl rfl) rfl ?_
  refine SPL_y (y_shl rfl rfl (by first | omega | decide) rfl) rfl ?_
  refine SPL_y (y_or rfl rfl rfl) rfl ?_
  refine SPL_y (y_assign rfl) rfl ?_
  refine SPL_nil ?_
  refine thenP_n ?_
  refine SP_ret ?_
  refine bodyP_ret (H' := []) (Res1 rfl rfl) (by repeat (first | exact Part.nil _ | (apply Part.cons; (first | exact P0 | exact P1 | exact P2 | exact P3 | exact P4 | exact P5 | exact P6 | exact P7 | exact P8 | exact P9 | exact P10 | exact P11 | exact P12 | exact P13 | exact P14 | exact P15 | exact P16 | exact P17 | exact P18 | exact P19 | exact P20 | exact P21 | exact P22 | exact P23)) | (apply Part.flat; simp only [List.cons_append, List.nil_append]) | (apply Part.nilc))) ?_
  exact ⟨rfl, rfl⟩

theorem reach_ok {m : Mem} {op f l ad off : Int} (hf : 19 ≤ f) (hl : l ≤ 28) (h : (reach m op f l ad off).2.2 = 0) : ∃ ea w : Nat, reach m op f l ad off = ((ea : Int), (w : Int), 0) ∧ w = wid op ∧ w ≤ 8 ∧ ea + w ≤ m.bytes.length ∧ f ≤ op ∧ op ≤ l := by
  unfold reach at h ⊢
  split at h
  · simp at h
  · split at h
    · simp at h
    · rename_i h1 h2
      refine ⟨(ad % 4294967296 + off).toNat, wid op, ?_, rfl, wid_le op, by omega, by omega, by omega⟩
      rw [if_neg h1, if_neg h2]
      congr 1; omega
theorem win_pad {m : Mem} {ea w : Nat} (hw : w ≤ 8) (h : ea + w ≤ m.bytes.length) : win m (List.replicate 8 0) 0 ea w = pad8 (rd m ea w) := by
  simp only [win, List.take_zero, List.nil_append, Nat.zero_add, pad8, rd_len h, List.drop_replicate]
theorem pad8_len {m : Mem} {ea w : Nat} (hw : w ≤ 8) (h : ea + w ≤ m.bytes.length) : ∃ b0 b1 b2 b3 b4 b5 b6 b7, pad8 (rd m ea w) = [b0, b1, b2, b3, b4, b5, b6, b7] := by
  have hl : (pad8 (rd m ea w)).length = 8 := by simp [pad8, rd_len h]; omega
  generalize pad8 (rd m ea w) = l at hl
  match l, hl with
  | [b0, b1, b2, b3, b4, b5, b6, b7], _ => exact ⟨b0, b1, b2, b3, b4, b5, b6, b7, rfl⟩

theorem mach_Load (b : Nat) (m : Mem) (s : Seg) (op ad off : Int) (hm : isMach b m s) : Spec Tryz.prog 42 [.pointer (some ⟨b, 0, none⟩), I op, I ad, I off] [s] (Ret fun v H => v = .tuple #[I (mload m op ad off).1, I (mload m op ad off).2] ∧ H = [s]) := by
  refine Spec_enter Tryz.func42 rfl Tryz.ntmps42 rfl ?_
  show SP _ _ _ _ _ [(0, _), (1, _), (2, _), (3, _)] _
  refine SP_seq ?_
  refine SP_region ?_
  refine SPL_y (y_assign rfl) rfl ?_
  refine SPL_y (y_assign rfl) rfl ?_
  refine SPL_nil ?_
  refine thenP_n ?_
  refine SP_seq ?_
  refine SP_region ?_
  refine SPL_y (y_move rfl) rfl ?_
  refine SPL_y (y_move rfl) rfl ?_
  refine SPL_y (y_move rfl) rfl ?_
  refine SPL_y (y_move rfl) rfl ?_
  refine SPL_one rfl (SP1_call (mach_reach b m s op 19 24 ad off hm (by decide) (by decide)) Tryz.call61 rfl rfl (by repeat (first | exact Part.nil _ | (apply Part.cons; (first | exact P0 | exact P1 | exact P2 | exact P3 | exact P4 | exact P5 | exact P6 | exact P7 | exact P8 | exact P9 | exact P10 | exact P11 | exact P12 | exact P13 | exact P14 | exact P15 | exact P16 | exact P17 | exact P18 | exact P19 | exact P20 | exact P21 | exact P22 | exact P23)) | (apply Part.flat; simp only [List.cons_append, List.nil_append]) | (apply Part.nilc))) ?_)
  rintro v post H' ⟨rfl, rfl⟩ hH
  simp only [List.cons_append, List.nil_append] at hH
  subst hH
  refine SPL_y (y_move rfl) rfl ?_
  refine SPL_y (y_ext rfl rfl) rfl ?_
  refine SPL_y (y_ext rfl rfl) rfl ?_
  refine SPL_y (y_ext rfl rfl) rfl ?_
  refine SPL_y (y_assign rfl) rfl ?_
  refine SPL_y (y_assign rfl) rfl ?_
  refine SPL_y (y_assign rfl) rfl ?_
  refine SPL_nil ?_
  refine thenP_n ?_
  refine SP_seq ?_
  refine SP_seq ?_
  refine SP_region ?_
  refine SPL_y (y_move rfl) rfl ?_
  refine SPL_if (y_neq rfl rfl) rfl ?_ ?_
  · intro h2_1
    refine SPL_nil ?_
    refine thenP_n ?_
    refine SP_cond_t rfl ?_
    refine SP_seq ?_
    refine SP_region ?_
    refine SPL_y (y_move rfl) rfl ?_
    refine SPL_y (y_assign rfl) rfl ?_
    refine SPL_y (y_assign rfl) rfl ?_
    refine SPL_nil ?_
    refine thenP_n ?_
    refine SP_ret ?_
    refine thenP_ret (bodyP_ret (H' := [s]) (Res2 rfl rfl rfl) (by repeat (first | exact Part.nil _ | (apply Part.cons; (first | exact P0 | exact P1 | exact P2 | exact P3 | exact P4 | exact P5 | exact P6 | exact P7 | exact P8 | exact P9 | exact P10 | exact P11 | exact P12 | exact P13 | exact P14 | exact P15 | exact P16 | exact P17 | exact P18 | exact P19 | exact P20 | exact P21 | exact P22 | exact P23)) | (apply Part.flat; simp only [List.cons_append, List.nil_append]) | (apply Part.nilc))) ?_)
    refine ⟨?_, rfl⟩
    have e : mload m op ad off = (0, (reach m op 19 24 ad off).2.2) := by unfold mload; rw [if_pos h2_1]
    rw [e]
  intro h2_1
  refine SPL_nil ?_
  refine thenP_n ?_
  refine SP_cond_f rfl ?_
  refine SP_skip ?_
  refine thenP_n ?_
  refine SP_seq ?_
  obtain ⟨ea, w, hr, hww, hw8, hew, hop1, hop2⟩ := reach_ok (m := m) (op := op) (f := 19) (l := 24) (ad := ad) (off := off) (by decide) (by decide) (by omega)
  obtain ⟨b0, b1, b2, b3, b4, b5, b6, b7, hB⟩ := pad8_len hw8 hew
  have hld : mload m op ad off = (loadV op b0 b1 b2 b3 b4 b5 b6 b7, 0) := by unfold mload; rw [hr]; simp only [ne_eq, not_true_eq_false, if_false, Int.toNat_natCast]; rw [hB]; rfl
  rw [hr, hld]
  dsimp only
  refine SP_region ?_
  refine SPL_one rfl (SP1_alloc Tryz.zeroValue146 rfl rfl ?_)
  intro b13
  refine SPL_nil ?_
  refine thenP_n ?_
  refine SP_seq ?_
  refine SP_region ?_
  refine SPL_y (y_move rfl) rfl ?_
  refine SPL_y (y_move rfl) rfl ?_
  refine SPL_y (y_move rfl) rfl ?_
  refine SPL_y (y_arr_hi Tryz.underlying146 Tryz.sizeOf5 rfl rfl (by omega)) rfl ?_
  refine SPL_one rfl (SP1_call (mach_gather b m s ea b13 0 w 8 146 (List.replicate 8 0) hm (by simpa using hw8) hw8 (by rw [List.drop_zero, List.take_replicate, Nat.min_eq_left hw8]) hew) Tryz.call62 rfl rfl (by repeat (first | exact Part.nil _ | (apply Part.cons; (first | exact P0 | exact P1 | exact P2 | exact P3 | exact P4 | exact P5 | exact P6 | exact P7 | exact P8 | exact P9 | exact P10 | exact P11 | exact P12 | exact P13 | exact P14 | exact P15 | exact P16 | exact P17 | exact P18 | exact P19 | exact P20 | exact P21 | exact P22 | exact P23)) | (apply Part.flat; simp only [List.cons_append, List.nil_append]) | (apply Part.nilc))) ?_)
  rintro v post H' ⟨rfl, rfl⟩ hH
  simp only [List.cons_append, List.nil_append] at hH
  subst hH
  rw [win_pad hw8 hew, hB]
  refine SPL_nil ?_
  refine thenP_n ?_
  refine SP_seq ?_
  refine SP_region ?_
  refine SPL_y (y_arr_hi Tryz.underlying146 Tryz.sizeOf5 rfl rfl (by decide)) rfl ?_
  refine SPL_y (y_toArr Tryz.underlying306 rfl (by decide)) rfl ?_
  refine SPL_one rfl (SP1_call (mach_le16 b13 0 146 [b0, b1, b2, b3, b4, b5, b6, b7] b0 b1 rfl rfl) Tryz.call63 rfl rfl (by repeat (first | exact Part.nil _ | (apply Part.cons; (first | exact P0 | exact P1 | exact P2 | exact P3 | exact P4 | exact P5 | exact P6 | exact P7 | exact P8 | exact P9 | exact P10 | exact P11 | exact P12 | exact P13 | exact P14 | exact P15 | exact P16 | exact P17 | exact P18 | exact P19 | exact P20 | exact P21 | exact P22 | exact P23)) | (apply Part.flat; simp only [List.cons_append, List.nil_append]) | (apply Part.nilc))) ?_)
  rintro v post H' ⟨rfl, rfl⟩ hH
  simp only [List.cons_append, List.nil_append] at hH
  subst hH
  refine SPL_y (y_assign rfl) rfl ?_
  refine SPL_nil ?_
  refine thenP_n ?_
  refine SP_seq ?_
  refine SP_region ?_
  refine SPL_y (y_arr_hi Tryz.underlying146 Tryz.sizeOf5 rfl rfl (by decide)) rfl ?_
  refine SPL_y (y_toArr Tryz.underlying153 rfl (by decide)) rfl ?_
  refine SPL_y (y_loads Tryz.isAgg153 Tryz.sizeOf153 rfl rfl (by repeat (first | exact Cells.head (vs := bytesV [b0, b1, b2, b3]) rfl | apply Cells.tail))) rfl ?_
  refine SPL_one rfl (SP1_call (mach_le32 b0 b1 b2 b3) Tryz.call64 rfl rfl (by repeat (first | exact Part.nil _ | (apply Part.cons; (first | exact P0 | exact P1 | exact P2 | exact P3 | exact P4 | exact P5 | exact P6 | exact P7 | exact P8 | exact P9 | exact P10 | exact P11 | exact P12 | exact P13 | exact P14 | exact P15 | exact P16 | exact P17 | exact P18 | exact P19 | exact P20 | exact P21 | exact P22 | exact P23)) | (apply Part.flat; simp only [List.cons_append, List.nil_append]) | (apply Part.nilc))) ?_)
  rintro v post H' ⟨rfl, rfl⟩ hH
  simp only [List.cons_append, List.nil_append] at hH
  subst hH
  refine SPL_y (y_assign rfl) rfl ?_
  refine SPL_nil ?_
  refine thenP_n ?_
  refine SP_seq ?_
  refine SP_region ?_
  refine SPL_y (y_arr_lo_ne Tryz.underlying146 Tryz.sizeOf5 rfl rfl (by decide)) rfl ?_
  refine SPL_y (y_toArr Tryz.underlying153 rfl (by decide)) rfl ?_
  refine SPL_y (y_loads Tryz.isAgg153 Tryz.sizeOf153 rfl rfl (by repeat (first | exact Cells.head (vs := bytesV [b4, b5, b6, b7]) rfl | apply Cells.tail))) rfl ?_
  refine SPL_one rfl (SP1_call (mach_le32 b4 b5 b6 b7) Tryz.call64 rfl rfl (by repeat (first | exact Part.nil _ | (apply Part.cons; (first | exact P0 | exact P1 | exact P2 | exact P3 | exact P4 | exact P5 | exact P6 | exact P7 | exact P8 | exact P9 | exact P10 | exact P11 | exact P12 | exact P13 | exact P14 | exact P15 | exact P16 | exact P17 | exact P18 | exact P19 | exact P20 | exact P21 | exact P22 | exact P23)) | (apply Part.flat; simp only [List.cons_append, List.nil_append]) | (apply Part.nilc))) ?_)
  rintro v post H' ⟨rfl, rfl⟩ hH
  simp only [List.cons_append, List.nil_append] at hH
  subst hH
  refine SPL_y (y_assign rfl) rfl ?_
  refine SPL_nil ?_
  refine thenP_n ?_
  refine SP_seq ?_
  refine SP_seq ?_
  refine SP_region ?_
  refine SPL_y (y_move rfl) rfl ?_
  refine SPL_nil ?_
  refine thenP_n ?_
  refine SP_block ?_
  refine SP_seq ?_
  refine SP_region ?_
  refine SPL_if (y_eql rfl rfl) rfl ?_ ?_
  · intro h10_0
    refine SPL_y (y_assign rfl) rfl ?_
    refine SPL_nil ?_
    refine thenP_n ?_
    refine SP_cond_t rfl ?_
    refine SP_seq ?_
    refine SP_region ?_
    refine SPL_y (y_ia_arr Tryz.underlying146 Tryz.sizeOf5 rfl rfl (by omega)) rfl ?_
    refine SPL_y (y_load Tryz.isAgg5 rfl (by repeat (first | exact Cell.head rfl | apply Cell.tail))) rfl ?_
    refine SPL_y (y_conv Tryz.underlying5 Tryz.underlying154 rfl rfl) rfl ?_
    refine SPL_y (y_conv Tryz.underlying154 Tryz.underlying3 rfl rfl) rfl ?_
    refine SPL_y (y_assign rfl) rfl ?_
    refine SPL_y (y_assign rfl) rfl ?_
    refine SPL_nil ?_
    refine thenP_n ?_
    refine SP_ret ?_
    refine inBlockP_ret (thenP_ret (bodyP_ret (H' := [s]) (Res2 rfl rfl rfl) (by repeat (first | exact Part.nil _ | (apply Part.cons; (first | exact P0 | exact P1 | exact P2 | exact P3 | exact P4 | exact P5 | exact P6 | exact P7 | exact P8 | exact P9 | exact P10 | exact P11 | exact P12 | exact P13 | exact P14 | exact P15 | exact P16 | exact P17 | exact P18 | exact P19 | exact P20 | exact P21 | exact P22 | exact P23)) | (apply Part.flat; simp only [List.cons_append, List.nil_append]) | (apply Part.nilc))) ?_))
    refine ⟨?_, rfl⟩
    simp only [loadV]; rw [if_pos (by assumption)]
  intro h10_0
  refine SPL_y (y_assign rfl) rfl ?_
  refine SPL_nil ?_
  refine thenP_n ?_
  refine SP_cond_f rfl ?_
  refine SP_seq ?_
  refine SP_region ?_
  refine SPL_if (y_eql rfl rfl) rfl ?_ ?_
  · intro h12_0
    refine SPL_y (y_assign rfl) rfl ?_
    refine SPL_nil ?_
    refine thenP_n ?_
    refine SP_cond_t rfl ?_
    refine SP_seq ?_
    refine SP_region ?_
    refine SPL_y (y_ia_arr Tryz.underlying146 Tryz.sizeOf5 rfl rfl (by omega)) rfl ?_
    refine SPL_y (y_load Tryz.isAgg5 rfl (by repeat (first | exact Cell.head rfl | apply Cell.tail))) rfl ?_
    refine SPL_y (y_conv Tryz.underlying5 Tryz.underlying3 rfl rfl) rfl ?_
    refine SPL_y (y_assign rfl) rfl ?_
    refine SPL_y (y_assign rfl) rfl ?_
    refine SPL_nil ?_
    refine thenP_n ?_
    refine SP_ret ?_
    refine inBlockP_ret (thenP_ret (bodyP_ret (H' := [s]) (Res2 rfl rfl rfl) (by repeat (first | exact Part.nil _ | (apply Part.cons; (first | exact P0 | exact P1 | exact P2 | exact P3 | exact P4 | exact P5 | exact P6 | exact P7 | exact P8 | exact P9 | exact P10 | exact P11 | exact P12 | exact P13 | exact P14 | exact P15 | exact P16 | exact P17 | exact P18 | exact P19 | exact P20 | exact P21 | exact P22 | exact P23)) | (apply Part.flat; simp only [List.cons_append, List.nil_append]) | (apply Part.nilc))) ?_))
    refine ⟨?_, rfl⟩
    simp only [loadV]; rw [if_neg (by omega), if_pos (by omega)]
  intro h12_0
  refine SPL_y (y_assign rfl) rfl ?_
  refine SPL_nil ?_
  refine thenP_n ?_
  refine SP_cond_f rfl ?_
  refine SP_seq ?_
  refine SP_region ?_
  refine SPL_if (y_eql rfl rfl) rfl ?_ ?_
  · intro h14_0
    refine SPL_y (y_assign rfl) rfl ?_
    refine SPL_nil ?_
    refine thenP_n ?_
    refine SP_cond_t rfl ?_
    refine SP_seq ?_
    refine SP_region ?_
    refine SPL_y (y_move rfl) rfl ?_
    refine SPL_y (y_conv Tryz.underlying148 Tryz.underlying155 rfl rfl) rfl ?_
    refine SPL_y (y_conv Tryz.underlying155 Tryz.underlying3 rfl rfl) rfl ?_
    refine SPL_y (y_assign rfl) rfl ?_
    refine SPL_y (y_assign rfl) rfl ?_
    refine SPL_nil ?_
    refine thenP_n ?_
    refine SP_ret ?_
    refine inBlockP_ret (thenP_ret (bodyP_ret (H' := [s]) (Res2 rfl rfl rfl) (by repeat (first | exact Part.nil _ | (apply Part.cons; (first | exact P0 | exact P1 | exact P2 | exact P3 | exact P4 | exact P5 | exact P6 | exact P7 | exact P8 | exact P9 | exact P10 | exact P11 | exact P12 | exact P13 | exact P14 | exact P15 | exact P16 | exact P17 | exact P18 | exact P19 | exact P20 | exact P21 | exact P22 | exact P23)) | (apply Part.flat; simp only [List.cons_append, List.nil_append]) | (apply Part.nilc))) ?_))
    refine ⟨?_, rfl⟩
    simp only [loadV]; rw [if_neg (by omega), if_neg (by omega), if_pos (by omega)]
  intro h14_0
  refine SPL_y (y_assign rfl) rfl ?_
  refine SPL_nil ?_
  refine thenP_n ?_
  refine SP_cond_f rfl ?_
  refine SP_seq ?_
  refine SP_region ?_
  refine SPL_if (y_eql rfl rfl) rfl ?_ ?_
  · intro h16_0
    refine SPL_y (y_assign rfl) rfl ?_
    refine SPL_nil ?_
    refine thenP_n ?_
    refine SP_cond_t rfl ?_
    refine SP_seq ?_
    refine SP_region ?_
    refine SPL_y (y_move rfl) rfl ?_
    refine SPL_y (y_conv Tryz.underlying148 Tryz.underlying3 rfl rfl) rfl ?_
    refine SPL_y (y_assign rfl) rfl ?_
    refine SPL_y (y_assign rfl) rfl ?_
    refine SPL_nil ?_
    refine thenP_n ?_
    refine SP_ret ?_
    refine inBlockP_ret (thenP_ret (bodyP_ret (H' := [s]) (Res2 rfl rfl rfl) (by repeat (first | exact Part.nil _ | (apply Part.cons; (first | exact P0 | exact P1 | exact P2 | exact P3 | exact P4 | exact P5 | exact P6 | exact P7 | exact P8 | exact P9 | exact P10 | exact P11 | exact P12 | exact P13 | exact P14 | exact P15 | exact P16 | exact P17 | exact P18 | exact P19 | exact P20 | exact P21 | exact P22 | exact P23)) | (apply Part.flat; simp only [List.cons_append, List.nil_append]) | (apply Part.nilc))) ?_))
    refine ⟨?_, rfl⟩
    simp only [loadV]; rw [if_neg (by omega), if_neg (by omega), if_neg (by omega), if_pos (by omega)]
  intro h16_0
  refine SPL_y (y_assign rfl) rfl ?_
  refine SPL_nil ?_
  refine thenP_n ?_
  refine SP_cond_f rfl ?_
  refine SP_seq ?_
  refine SP_region ?_
  refine SPL_if (y_eql rfl rfl) rfl ?_ ?_
  · intro h18_0
    refine SPL_y (y_assign rfl) rfl ?_
    refine SPL_nil ?_
    refine thenP_n ?_
    refine SP_cond_t rfl ?_
    refine SP_seq ?_
    refine SP_region ?_
    refine SPL_y (y_move rfl) rfl ?_
    refine SPL_y (y_conv Tryz.underlying151 Tryz.underlying21 rfl rfl) rfl ?_
    refine SPL_y (y_conv Tryz.underlying21 Tryz.underlying3 rfl rfl) rfl ?_
    refine SPL_y (y_assign rfl) rfl ?_
    refine SPL_y (y_assign rfl) rfl ?_
    refine SPL_nil ?_
    refine thenP_n ?_
    refine SP_ret ?_
    refine inBlockP_ret (thenP_ret (bodyP_ret (H' := [s]) (Res2 rfl rfl rfl) (by repeat (first | exact Part.nil _ | (apply Part.cons; (first | exact P0 | exact P1 | exact P2 | exact P3 | exact P4 | exact P5 | exact P6 | exact P7 | exact P8 | exact P9 | exact P10 | exact P11 | exact P12 | exact P13 | exact P14 | exact P15 | exact P16 | exact P17 | exact P18 | exact P19 | exact P20 | exact P21 | exact P22 | exact P23)) | (apply Part.flat; simp only [List.cons_append, List.nil_append]) | (apply Part.nilc))) ?_))
    refine ⟨?_, rfl⟩
    simp only [loadV]; rw [if_neg (by omega), if_neg (by omega), if_neg (by omega), if_neg (by omega), if_pos (by omega)]
  intro h18_0
  refine SPL_y (y_assign rfl) rfl ?_
  refine SPL_nil ?_
  refine thenP_n ?_
  refine SP_cond_f rfl ?_
  refine SP_skip ?_
  refine inBlockP_n ?_
  refine thenP_n ?_
  refine SP_seq ?_
  refine SP_region ?_
  refine SPL_y (y_move rfl) rfl ?_
  refine SPL_y (y_conv Tryz.underlying151 Tryz.underlying142 rfl rfl) rfl ?_
  refine SPL_y (y_shl rfl rfl (by first | omega | decide) rfl) rfl ?_
  refine SPL_y (y_move rfl) rfl ?_
  refine SPL_y (y_conv Tryz.underlying151 Tryz.underlying142 rfl rfl) rfl ?_
  refine SPL_y (y_or rfl rfl rfl) rfl ?_
  refine SPL_y (y_conv Tryz.underlying142 Tryz.underlying3 rfl rfl) rfl ?_
  refine SPL_y (y_assign rfl) rfl ?_
  refine SPL_y (y_assign rfl) rfl ?_
  refine SPL_nil ?_
  refine thenP_n ?_
  refine SP_ret ?_
  refine bodyP_ret (H' := [s]) (Res2 rfl rfl rfl) (by repeat (first | exact Part.nil _ | (apply Part.cons; (first | exact P0 | exact P1 | exact P2 | exact P3 | exact P4 | exact P5 | exact P6 | exact P7 | exact P8 | exact P9 | exact P10 | exact P11 | exact P12 | exact P13 | exact P14 | exact P15 | exact P16 | exact P17 | exact P18 | exact P19 | exact P20 | exact P21 | exact P22 | exact P23)) | (apply Part.flat; simp only [List.cons_append, List.nil_append]) | (apply Part.nilc))) ?_
  refine ⟨?_, rfl⟩
  simp only [loadV]; rw [if_neg (by omega), if_neg (by omega), if_neg (by omega), if_neg (by omega), if_neg (by omega)]; rfl

theorem byteAt_eq (v : Int) (i : Nat) (hi : i < 8) : IntKind.u8.wrap ((IntKind.u64.wrap v).fdiv (2 ^ (min (8 * (i : Int)).toNat IntKind.u64.bits))) = ((byteAt v i).toNat : Int) := by
  have e1 : min (8 * (i : Int)).toNat IntKind.u64.bits = 8 * i := by
    show min (8 * (i : Int)).toNat 64 = 8 * i
    omega
  rw [e1, IntKind.wrap_u64, IntKind.wrap_u8, byteAt, UInt8.toNat_ofNat']
  have h0 : (0 : Int) ≤ v % 18446744073709551616 := by omega
  obtain ⟨u, hu⟩ := Int.eq_ofNat_of_zero_le h0
  rw [hu, Int.toNat_natCast]
  have : ((u : Int)).fdiv (2 ^ (8 * i)) = ((u / 2 ^ (8 * i) : Nat) : Int) := by
    rw [Int.fdiv_eq_ediv_of_nonneg _ (Int.pow_nonneg (by decide))]; simp
  rw [this]
  omega
theorem bytes8_len (v : Int) : (bytes8 v).length = 8 := by simp [bytes8]
theorem bytes8_get (v : Int) (i : Nat) (hi : i < 8) : (bytes8 v)[i]'(by rw [bytes8_len]; exact hi) = byteAt v i := by simp [bytes8]
theorem st_step (v : Int) (k : Nat) (hk : k < 8) : (bytesV ((bytes8 v).take k ++ List.replicate (8 - k) 0)).set (0 + ((k : Nat) : Int).toNat * 1) (.int .u8 ((byteAt v k).toNat : Int)) = bytesV ((bytes8 v).take (k + 1) ++ List.replicate (8 - (k + 1)) 0) := by
  rw [Int.toNat_natCast, Nat.zero_add, Nat.mul_one, bytesV, ← List.map_set (f := fun c : UInt8 => Value.int .u8 c.toNat), bytesV]
  congr 1
  have hl : ((bytes8 v).take k).length = k := by rw [List.length_take, bytes8_len]; omega
  rw [List.set_append, if_neg (by omega), hl, Nat.sub_self, List.take_succ_eq_append_getElem (by rw [bytes8_len]; exact hk), bytes8_get v k hk]
  rw [show 8 - k = (8 - (k + 1)) + 1 by omega, List.replicate_succ]
  simp

theorem mach_Store (b : Nat) (m : Mem) (s : Seg) (op ad off v : Int) (hm : isMach b m s) : Spec Tryz.prog 137 [.pointer (some ⟨b, 0, none⟩), I op, I ad, I off, I v] [s] (Ret fun w H => ∃ s', w = I (mstore m op ad off v).2 ∧ H = [s'] ∧ isMach b (mstore m op ad off v).1 s') := by
  refine Spec_enter Tryz.func137 rfl Tryz.ntmps137 rfl ?_
  show SP _ _ _ _ _ [(0, _), (1, _), (2, _), (3, _), (4, _)] _
  refine SP_seq ?_
  refine SP_region ?_
  refine SPL_y (y_assign rfl) rfl ?_
  refine SPL_nil ?_
  refine thenP_n ?_
  refine SP_seq ?_
  refine SP_region ?_
  refine SPL_y (y_move rfl) rfl ?_
  refine SPL_y (y_move rfl) rfl ?_
  refine SPL_y (y_move rfl) rfl ?_
  refine SPL_y (y_move rfl) rfl ?_
  refine SPL_one rfl (SP1_call (mach_reach b m s op 25 28 ad off hm (by decide) (by decide)) Tryz.call61 rfl rfl (by repeat (first | exact Part.nil _ | (apply Part.cons; (first | exact P0 | exact P1 | exact P2 | exact P3 | exact P4 | exact P5 | exact P6 | exact P7 | exact P8 | exact P9 | exact P10 | exact P11 | exact P12 | exact P13 | exact P14 | exact P15 | exact P16 | exact P17 | exact P18 | exact P19 | exact P20 | exact P21 | exact P22 | exact P23)) | (apply Part.flat; simp only [List.cons_append, List.nil_append]) | (apply Part.nilc))) ?_)
  rintro v post H' ⟨rfl, rfl⟩ hH
  simp only [List.cons_append, List.nil_append] at hH
  subst hH
  refine SPL_y (y_move rfl) rfl ?_
  refine SPL_y (y_ext rfl rfl) rfl ?_
  refine SPL_y (y_ext rfl rfl) rfl ?_
  refine SPL_y (y_ext rfl rfl) rfl ?_
  refine SPL_y (y_assign rfl) rfl ?_
  refine SPL_y (y_assign rfl) rfl ?_
  refine SPL_y (y_assign rfl) rfl ?_
  refine SPL_nil ?_
  refine thenP_n ?_
  refine SP_seq ?_
  refine SP_seq ?_
  refine SP_region ?_
  refine SPL_y (y_move rfl) rfl ?_
  refine SPL_if (y_neq rfl rfl) rfl ?_ ?_
  · intro h2_1
    refine SPL_nil ?_
    refine thenP_n ?_
    refine SP_cond_t rfl ?_
    refine SP_seq ?_
    refine SP_region ?_
    refine SPL_y (y_move rfl) rfl ?_
    refine SPL_y (y_assign rfl) rfl ?_
    refine SPL_nil ?_
    refine thenP_n ?_
    refine SP_ret ?_
    refine thenP_ret (bodyP_ret (H' := [s]) (Res1 rfl rfl) (by repeat (first | exact Part.nil _ | (apply Part.cons; (first | exact P0 | exact P1 | exact P2 | exact P3 | exact P4 | exact P5 | exact P6 | exact P7 | exact P8 | exact P9 | exact P10 | exact P11 | exact P12 | exact P13 | exact P14 | exact P15 | exact P16 | exact P17 | exact P18 | exact P19 | exact P20 | exact P21 | exact P22 | exact P23)) | (apply Part.flat; simp only [List.cons_append, List.nil_append]) | (apply Part.nilc))) ?_)
    have e : mstore m op ad off v = (m, (reach m op 25 28 ad off).2.2) := by unfold mstore; rw [if_pos h2_1]
    rw [e]
    exact ⟨_, rfl, rfl, hm⟩
  intro h2_1
  refine SPL_nil ?_
  refine thenP_n ?_
  refine SP_cond_f rfl ?_
  refine SP_skip ?_
  refine thenP_n ?_
  refine SP_seq ?_
  obtain ⟨ea, w, hr, hww, hw8, hew, hop1, hop2⟩ := reach_ok (m := m) (op := op) (f := 25) (l := 28) (ad := ad) (off := off) (by decide) (by decide) (by omega)
  have hst : mstore m op ad off v = (wr m ea ((bytes8 v).take w), 0) := by unfold mstore; rw [hr]; simp only [ne_eq, not_true_eq_false, if_false, Int.toNat_natCast]
  rw [hr, hst]
  dsimp only
  refine SP_region ?_
  refine SPL_one rfl (SP1_alloc Tryz.zeroValue146 rfl rfl ?_)
  intro b14
  refine SPL_nil ?_
  refine thenP_n ?_
  refine SP_seq ?_
  refine SP_seq ?_
  refine SP_region ?_
  refine SPL_y (y_move rfl) rfl ?_
  refine SPL_nil ?_
  refine thenP_n ?_
  refine SP_block ?_
  refine SP_loop (G := Nat × List Value) (fun g => 8 - g.1) (fun g => [(0, .pointer (some ⟨b, 0, none⟩)), (4, I v), (11, I ea), (12, I w), (14, .pointer (some ⟨b14, 0, none⟩)), (28, I g.1)]) (fun g => [s, blk b14 146 g.2]) (fun g => g.1 ≤ 8 ∧ g.2 = bytesV ((bytes8 v).take g.1 ++ List.replicate (8 - g.1) 0)) ((0, [.int .u8 0, .int .u8 0, .int .u8 0, .int .u8 0, .int .u8 0, .int .u8 0, .int .u8 0, .int .u8 0])) (⟨by decide, rfl⟩) (by repeat (first | exact Sub.nil _ | refine Sub.cons rfl ?_)) (by repeat (first | exact Part.nil _ | (apply Part.cons; (first | exact P0 | exact P1 | exact P2 | exact P3 | exact P4 | exact P5 | exact P6 | exact P7 | exact P8 | exact P9 | exact P10 | exact P11 | exact P12 | exact P13 | exact P14 | exact P15 | exact P16 | exact P17 | exact P18 | exact P19 | exact P20 | exact P21 | exact P22 | exact P23)) | (apply Part.flat; simp only [List.cons_append, List.nil_append]) | (apply Part.nilc))) ?_
  rintro ⟨k, cs⟩ ⟨hk, hcs⟩
  dsimp only at hk hcs ⊢
  subst hcs
  refine SP_seq ?_
  refine SP_region ?_
  refine SPL_ifn (y_lss rfl rfl) rfl ?_ ?_
  · intro h6_0
    refine SPL_nil ?_
    refine thenP_n ?_
    refine SP_seq ?_
    refine SP_cond_f rfl ?_
    refine SP_exit ?_
    refine thenP_exit ?_
    refine thenP_exit ?_
    refine inBlockP_hit ?_
    refine thenP_n ?_
    refine SP_seq ?_
    refine SP_region ?_
    obtain rfl : k = 8 := by omega
    rw [show (bytes8 v).take 8 ++ List.replicate (8 - 8) 0 = bytes8 v by rw [List.take_of_length_le (by rw [bytes8_len]; decide)]; simp]
    refine SPL_y (y_move rfl) rfl ?_
    refine SPL_y (y_move rfl) rfl ?_
    refine SPL_y (y_move rfl) rfl ?_
    refine SPL_y (y_arr_hi Tryz.underlying146 Tryz.sizeOf5 rfl rfl (by omega)) rfl ?_
    refine SPL_one rfl (SP1_call (mach_scatter b m s ea b14 0 w 8 146 (bytes8 v) ((bytes8 v).take w) hm (by rw [bytes8_len]; omega) hw8 (by simp) hew) Tryz.call147 rfl rfl (by repeat (first | exact Part.nil _ | (apply Part.cons; (first | exact P0 | exact P1 | exact P2 | exact P3 | exact P4 | exact P5 | exact P6 | exact P7 | exact P8 | exact P9 | exact P10 | exact P11 | exact P12 | exact P13 | exact P14 | exact P15 | exact P16 | exact P17 | exact P18 | exact P19 | exact P20 | exact P21 | exact P22 | exact P23)) | (apply Part.flat; simp only [List.cons_append, List.nil_append]) | (apply Part.nilc))) ?_)
    rintro vv post H' ⟨rfl, s', rfl, hm'⟩ hH
    simp only [List.cons_append, List.nil_append] at hH
    subst hH
    refine SPL_nil ?_
    refine thenP_n ?_
    refine SP_seq ?_
    refine SP_region ?_
    refine SPL_y (y_assign rfl) rfl ?_
    refine SPL_nil ?_
    refine thenP_n ?_
    refine SP_ret ?_
    refine bodyP_ret (H' := [s']) (Res1 rfl rfl) (by repeat (first | exact Part.nil _ | (apply Part.cons; (first | exact P0 | exact P1 | exact P2 | exact P3 | exact P4 | exact P5 | exact P6 | exact P7 | exact P8 | exact P9 | exact P10 | exact P11 | exact P12 | exact P13 | exact P14 | exact P15 | exact P16 | exact P17 | exact P18 | exact P19 | exact P20 | exact P21 | exact P22 | exact P23)) | (apply Part.flat; simp only [List.cons_append, List.nil_append]) | (apply Part.nilc))) ?_
    exact ⟨_, rfl, rfl, hm'⟩
  intro h6_0
  refine SPL_nil ?_
  refine thenP_n ?_
  refine SP_seq ?_
  refine SP_cond_t rfl ?_
  refine SP_skip ?_
  refine thenP_n ?_
  refine SP_seq ?_
  refine SP_block ?_
  refine SP_seq ?_
  refine SP_region ?_
  refine SPL_y (y_move rfl) rfl ?_
  refine SPL_y (y_assign rfl) rfl ?_
  refine SPL_nil ?_
  refine thenP_n ?_
  refine SP_region ?_
  refine SPL_y (y_move rfl) rfl ?_
  refine SPL_y (y_move rfl) rfl ?_
  refine SPL_y (y_conv Tryz.underlying3 Tryz.underlying142 rfl rfl) rfl ?_
  refine SPL_y (y_move rfl) rfl ?_
  refine SPL_y (y_mul rfl rfl (by omega)) rfl ?_
  refine SPL_y (y_shr rfl rfl (by omega) rfl) rfl ?_
  refine SPL_y (y_conv Tryz.underlying142 Tryz.underlying5 rfl (byteAt_eq v k (by omega))) rfl ?_
  refine SPL_y (y_ia_arr Tryz.underlying146 Tryz.sizeOf5 rfl rfl (by omega)) rfl ?_
  refine SPL_one rfl (SP1_store Tryz.sizeOf5 rfl rfl rfl (by first | exact U0 | exact U1 | exact U2 | exact U3 | exact U4 | exact U5 | exact U6 | exact U7 | exact U8 | exact U9 | exact U10 | exact U11 | exact U12 | exact U13 | exact U14 | exact U15 | exact U16 | exact U17 | exact U18 | exact U19 | exact U20 | exact U21 | exact U22 | exact U23) (ble_of (by rw [bytesV_len]; simp [bytes8_len]; omega)) ?_)
  refine SPL_nil ?_
  refine inBlockP_n ?_
  refine thenP_n ?_
  refine SP_region ?_
  refine SPL_y (y_add rfl rfl (by omega)) rfl ?_
  refine SPL_y (y_move rfl) rfl ?_
  refine SPL_nil ?_
  refine thenP_n ?_
  exact Again.intro ((k + 1, _)) (⟨by dsimp only; omega, st_step v k (by omega)⟩) (by simp only []; omega) (by repeat (first | exact Sub.nil _ | refine Sub.cons rfl ?_)) (by repeat (first | exact Part.nil _ | (apply Part.cons; (first | exact P0 | exact P1 | exact P2 | exact P3 | exact P4 | exact P5 | exact P6 | exact P7 | exact P8 | exact P9 | exact P10 | exact P11 | exact P12 | exact P13 | exact P14 | exact P15 | exact P16 | exact P17 | exact P18 | exact P19 | exact P20 | exact P21 | exact P22 | exact P23)) | (apply Part.flat; simp only [List.cons_append, List.nil_append]) | (apply Part.nilc)))

theorem load8U {m : Mem} {k : Nat} (hk : k < m.bytes.length) (h32 : k < 4294967296) : mload m 22 k 0 = ((m.bytes[k].toNat : Int), 0) := by
  have e : reach m 22 19 24 k 0 = ((k : Int), 1, 0) := by
    unfold reach
    have hw : wid 22 = 1 := by decide
    rw [if_neg (by decide), if_neg (by rw [hw]; omega), hw]
    congr 1; omega
  unfold mload
  rw [e]
  simp only [ne_eq, not_true_eq_false, if_false, Int.toNat_natCast]
  have e2 : rd m k 1 = [m.bytes[k]] := by
    simp only [rd]; rw [List.drop_eq_getElem_cons hk]; rfl
  rw [show (1 : Int).toNat = 1 from rfl, e2]
  have := UInt8.toNat_lt m.bytes[k]
  show (loadV 22 _ _ _ _ _ _ _ _, 0) = _
  simp only [loadV]
  rw [if_neg (by decide), if_pos trivial, wrap_i64 (by omega) (by omega)]

theorem mach_Show (b : Nat) (m : Mem) (s : Seg) (hm : isMach b m s) : Spec Tryz.prog 17 [.pointer (some ⟨b, 0, none⟩)] [s] (Ret fun v H => v = S (showMem m) ∧ H = [s]) := by
  have hm0 := hm
  obtain ⟨pa, pc, pg, sp, sg, rfl, ap, hg, hpm, hm4⟩ := hm
  have hgl := hg.len
  have hq : m.bytes.length / 8 = pg.length := by rw [hgl, Nat.mul_div_cancel_left _ (by omega)]
  refine Spec_flat ?_
  simp only [List.cons_append, List.nil_append]
  refine Spec_enter Tryz.func17 rfl Tryz.ntmps17 rfl ?_
  show SP _ _ _ _ _ [(0, _)] _
  refine SP_seq ?_
  refine SP_region ?_
  refine SPL_y (y_assign rfl) rfl ?_
  refine SPL_nil ?_
  refine thenP_n ?_
  refine SP_seq ?_
  refine SP_region ?_
  refine SPL_y (y_move rfl) rfl ?_
  refine SPL_y (y_nil rfl) rfl ?_
  refine SPL_y (y_fa fld_102_0 rfl) rfl ?_
  refine SPL_y (y_load Tryz.isAgg100 rfl (by repeat (first | exact Cell.head rfl | apply Cell.tail))) rfl ?_
  refine SPL_y (y_len_l Tryz.underlying100 rfl) rfl ?_
  refine SPL_one rfl (SP1_call (api_Num [] pg.length (by simp) (by omega) (by omega)) Tryz.call41 rfl rfl (by repeat (first | exact Part.nil _ | (apply Part.cons; (first | exact P0 | exact P1 | exact P2 | exact P3 | exact P4 | exact P5 | exact P6 | exact P7 | exact P8 | exact P9 | exact P10 | exact P11 | exact P12 | exact P13 | exact P14 | exact P15 | exact P16 | exact P17 | exact P18 | exact P19 | exact P20 | exact P21 | exact P22 | exact P23)) | (apply Part.flat; simp only [List.cons_append, List.nil_append]) | (apply Part.nilc))) ?_)
  rintro v post H' ⟨rfl, rfl⟩ hH
  simp only [List.cons_append, List.nil_append] at hH
  subst hH
  refine SPL_y (y_assign rfl) rfl ?_
  refine SPL_nil ?_
  refine thenP_n ?_
  refine SP_seq ?_
  refine SP_region ?_
  refine SPL_y (y_move rfl) rfl ?_
  refine SPL_y (y_move rfl) rfl ?_
  refine SPL_y (y_nil rfl) rfl ?_
  refine SPL_y (y_fa fld_102_1 rfl) rfl ?_
  refine SPL_y (y_load Tryz.isAgg3 rfl (by repeat (first | exact Cell.head rfl | apply Cell.tail))) rfl ?_
  refine SPL_one rfl (SP1_call (api_Num (num [] pg.length) m.max (by have := num_len [] pg.length; simp at this; omega) (by omega) (by omega)) Tryz.call41 rfl rfl (by repeat (first | exact Part.nil _ | (apply Part.cons; (first | exact P0 | exact P1 | exact P2 | exact P3 | exact P4 | exact P5 | exact P6 | exact P7 | exact P8 | exact P9 | exact P10 | exact P11 | exact P12 | exact P13 | exact P14 | exact P15 | exact P16 | exact P17 | exact P18 | exact P19 | exact P20 | exact P21 | exact P22 | exact P23)) | (apply Part.flat; simp only [List.cons_append, List.nil_append]) | (apply Part.nilc))) ?_)
  rintro v post H' ⟨rfl, rfl⟩ hH
  simp only [List.cons_append, List.nil_append] at hH
  subst hH
  refine SPL_y (y_assign rfl) rfl ?_
  refine SPL_nil ?_
  refine thenP_n ?_
  refine SP_seq ?_
  refine SP_seq ?_
  refine SP_region ?_
  refine SPL_y (y_move rfl) rfl ?_
  refine SPL_y (y_nil rfl) rfl ?_
  refine SPL_y (y_fa fld_102_0 rfl) rfl ?_
  refine SPL_y (y_load Tryz.isAgg100 rfl (by repeat (first | exact Cell.head rfl | apply Cell.tail))) rfl ?_
  refine SPL_y (y_len_l Tryz.underlying100 rfl) rfl ?_
  refine SPL_y (y_mul rfl rfl (by omega)) rfl ?_
  refine SPL_y (y_move rfl) rfl ?_
  refine SPL_nil ?_
  refine thenP_n ?_
  refine SP_block ?_
  refine SP_loop (G := Nat × List UInt8) (fun g => m.bytes.length - g.1) (fun g => [(0, .pointer (some ⟨b, 0, none⟩)), (3, S g.2), (24, I (pg.length * 8)), (25, I g.1)]) (fun g => [List.flatten [blk b 102 [.slice pa pg.length pc, I m.max, I (pg.countP Option.isSome : Nat)], sp, sg]]) (fun g => g.1 ≤ m.bytes.length ∧ g.2 = numS (m.bytes.length / 8 : Nat) ++ numS m.max ++ (m.bytes.take g.1).flatMap (fun c => numS c.toNat) ∧ g.2.length ≤ 44 + 22 * g.1) ((0, num (num [] pg.length) m.max)) (⟨Nat.zero_le _, by simp [num, hq], by have h1 := num_len (num [] pg.length) m.max; have h2 := num_len [] pg.length; simp at h1 h2 ⊢; omega⟩) (by repeat (first | exact Sub.nil _ | refine Sub.cons rfl ?_)) (by repeat (first | exact Part.nil _ | (apply Part.cons; (first | exact P0 | exact P1 | exact P2 | exact P3 | exact P4 | exact P5 | exact P6 | exact P7 | exact P8 | exact P9 | exact P10 | exact P11 | exact P12 | exact P13 | exact P14 | exact P15 | exact P16 | exact P17 | exact P18 | exact P19 | exact P20 | exact P21 | exact P22 | exact P23)) | (apply Part.flat; simp only [List.cons_append, List.nil_append]) | (apply Part.nilc))) ?_
  rintro ⟨k, x⟩ ⟨hk, hx, hxl⟩
  dsimp only at hk hx hxl ⊢
  refine SP_seq ?_
  refine SP_region ?_
  refine SPL_ifn (y_lss rfl rfl) rfl ?_ ?_
  · intro h4_0
    refine SPL_nil ?_
    refine thenP_n ?_
    refine SP_seq ?_
    refine SP_cond_f rfl ?_
    refine SP_exit ?_
    refine thenP_exit ?_
    refine thenP_exit ?_
    refine inBlockP_hit ?_
    refine thenP_n ?_
    refine SP_seq ?_
    refine SP_region ?_
    refine SPL_y (y_move rfl) rfl ?_
    refine SPL_y (y_assign rfl) rfl ?_
    refine SPL_nil ?_
    refine thenP_n ?_
    refine SP_ret ?_
    refine bodyP_ret (H' := [List.flatten [blk b 102 [.slice pa pg.length pc, I m.max, I (pg.countP Option.isSome : Nat)], sp, sg]]) (Res1 rfl rfl) (by repeat (first | exact Part.nil _ | (apply Part.cons; (first | exact P0 | exact P1 | exact P2 | exact P3 | exact P4 | exact P5 | exact P6 | exact P7 | exact P8 | exact P9 | exact P10 | exact P11 | exact P12 | exact P13 | exact P14 | exact P15 | exact P16 | exact P17 | exact P18 | exact P19 | exact P20 | exact P21 | exact P22 | exact P23)) | (apply Part.flat; simp only [List.cons_append, List.nil_append]) | (apply Part.nilc))) ?_
    refine ⟨?_, rfl⟩
    rw [hx, List.take_of_length_le (by omega)]; rfl
  intro h4_0
  refine SPL_nil ?_
  refine thenP_n ?_
  refine SP_seq ?_
  refine SP_cond_t rfl ?_
  refine SP_skip ?_
  refine thenP_n ?_
  refine SP_seq ?_
  refine SP_block ?_
  refine SP_seq ?_
  have hkl : k < m.bytes.length := by omega
  refine SP_region ?_
  refine SPL_y (y_move rfl) rfl ?_
  refine SPL_y (y_assign rfl) rfl ?_
  refine SPL_nil ?_
  refine thenP_n ?_
  refine SP_seq ?_
  refine SP_region ?_
  refine SPL_y (y_move rfl) rfl ?_
  refine SPL_y (y_move rfl) rfl ?_
  refine SPL_one rfl (SP1_call (mach_Load b m _ 22 k 0 hm0) Tryz.call42 rfl rfl (by repeat (first | exact Part.nil _ | (apply Part.cons; (first | exact P0 | exact P1 | exact P2 | exact P3 | exact P4 | exact P5 | exact P6 | exact P7 | exact P8 | exact P9 | exact P10 | exact P11 | exact P12 | exact P13 | exact P14 | exact P15 | exact P16 | exact P17 | exact P18 | exact P19 | exact P20 | exact P21 | exact P22 | exact P23)) | (apply Part.flat; simp only [List.cons_append, List.nil_append]) | (apply Part.nilc))) ?_)
  rintro v post H' ⟨rfl, rfl⟩ hH
  simp only [List.cons_append, List.nil_append] at hH
  subst hH
  rw [load8U hkl (by omega)]
  dsimp only
  refine SPL_y (y_move rfl) rfl ?_
  refine SPL_y (y_ext rfl rfl) rfl ?_
  refine SPL_y (y_ext rfl rfl) rfl ?_
  refine SPL_y (y_assign rfl) rfl ?_
  refine SPL_y (y_assign rfl) rfl ?_
  refine SPL_nil ?_
  refine thenP_n ?_
  refine SP_region ?_
  refine SPL_y (y_move rfl) rfl ?_
  refine SPL_y (y_move rfl) rfl ?_
  refine SPL_one rfl (SP1_call (api_Num x m.bytes[k].toNat (by omega) (by have := UInt8.toNat_lt m.bytes[k]; omega) (by have := UInt8.toNat_lt m.bytes[k]; omega)) Tryz.call41 rfl rfl (by repeat (first | exact Part.nil _ | (apply Part.cons; (first | exact P0 | exact P1 | exact P2 | exact P3 | exact P4 | exact P5 | exact P6 | exact P7 | exact P8 | exact P9 | exact P10 | exact P11 | exact P12 | exact P13 | exact P14 | exact P15 | exact P16 | exact P17 | exact P18 | exact P19 | exact P20 | exact P21 | exact P22 | exact P23)) | (apply Part.flat; simp only [List.cons_append, List.nil_append]) | (apply Part.nilc))) ?_)
  rintro v post H' ⟨rfl, rfl⟩ hH
  simp only [List.cons_append, List.nil_append] at hH
  subst hH
  refine SPL_y (y_assign rfl) rfl ?_
  refine SPL_nil ?_
  refine inBlockP_n ?_
  refine thenP_n ?_
  refine SP_region ?_
  refine SPL_y (y_add rfl rfl (by omega)) rfl ?_
  refine SPL_y (y_move rfl) rfl ?_
  refine SPL_nil ?_
  refine thenP_n ?_
  exact Again.intro ((k + 1, num x m.bytes[k].toNat)) (⟨by dsimp only; omega, by dsimp only; rw [hx, List.take_succ_eq_append_getElem hkl, List.flatMap_append]; simp only [num, List.append_assoc, List.flatMap_cons, List.flatMap_nil, List.append_nil], by dsimp only; have := num_len x m.bytes[k].toNat; omega⟩) (by simp only []; omega) (by repeat (first | exact Sub.nil _ | refine Sub.cons rfl ?_)) (by repeat (first | exact Part.nil _ | (apply Part.cons; (first | exact P0 | exact P1 | exact P2 | exact P3 | exact P4 | exact P5 | exact P6 | exact P7 | exact P8 | exact P9 | exact P10 | exact P11 | exact P12 | exact P13 | exact P14 | exact P15 | exact P16 | exact P17 | exact P18 | exact P19 | exact P20 | exact P21 | exact P22 | exact P23)) | (apply Part.flat; simp only [List.cons_append, List.nil_append]) | (apply Part.nilc)))

end Go.Sl
