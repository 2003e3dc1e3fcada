/- Walks: package mach (made by program out of short notes) -/
import Derived.Test.Qxb6500572aGreatDoorFacts
import Derived.Test.Qxb6500572aGreatDoorPMach
import Derived.Test.Qxb6500572aGreatDoorWApi
namespace Go.Sl
open Go Go.Wl Go.Proofs
set_option maxRecDepth 100000
set_option linter.unusedVariables false
set_option linter.unusedSimpArgs false
theorem countP_none (k : Nat) : (List.replicate k (none : Option Nat)).countP Option.isSome = 0 := by simp [List.countP_replicate]
theorem flat_none (lo : Nat) : (List.replicate lo [Value.pointer none]).flatten = (List.replicate lo none).map ptrV := by
  induction lo with
  | zero => rfl
  | succ n ih => rw [List.replicate_succ, List.replicate_succ, List.flatten_cons, ih]; rfl

theorem mach_New (lo hi : Nat) (h1 : lo ≤ hi) (h2 : hi ≤ 4) : Spec Tryz.prog 32 [I lo, I hi] [] (Ret fun v H => ∃ b s, v = .tuple #[.pointer (some ⟨b, 0, none⟩), .nilIface] ∧ H = [s] ∧ isMach b ⟨List.replicate (8 * lo) 0, hi⟩ s) := by
  refine Spec_enter Tryz.func32 rfl Tryz.ntmps32 rfl ?_
  show SP _ _ _ _ _ [(0, _), (1, _)] _
  refine SP_seq ?_
  refine SP_region ?_
  refine SPL_y (y_assign rfl) rfl ?_
  refine SPL_y (y_assign rfl) rfl ?_
  refine SPL_nil ?_
  refine thenP_n ?_
  refine SP_seq ?_
  refine SP_seq ?_
  refine SP_region ?_
  refine SPL_y (y_move rfl) rfl ?_
  refine SPL_if (y_lss rfl rfl) rfl ?_ ?_
  · intro h1_1
    omega
  intro h1_1
  refine SPL_y (y_move rfl) rfl ?_
  refine SPL_gy rfl rfl ?_
  refine SPL_y (y_move rfl) rfl ?_
  refine SPL_gy rfl rfl ?_
  refine SPL_y (y_move rfl) rfl ?_
  refine SPL_gy rfl rfl ?_
  refine SPL_if (y_gtr rfl rfl) rfl ?_ ?_
  · intro h1_5
    omega
  intro h1_5
  refine SPL_y (y_pick_f rfl rfl) rfl ?_
  refine SPL_y (y_move rfl) rfl ?_
  refine SPL_gy rfl rfl ?_
  refine SPL_y (y_move rfl) rfl ?_
  refine SPL_gy rfl rfl ?_
  refine SPL_if (y_gtr rfl rfl) rfl ?_ ?_
  · intro h1_9
    omega
  intro h1_9
  refine SPL_y (y_pick_f rfl rfl) rfl ?_
  refine SPL_nil ?_
  refine thenP_n ?_
  refine SP_cond_f rfl ?_
  refine SP_skip ?_
  refine thenP_n ?_
  refine SP_seq ?_
  refine SP_region ?_
  refine SPL_y (y_move rfl) rfl ?_
  refine SPL_one rfl (SP1_make el_100 rfl (by omega) rfl ?_)
  intro bp
  refine SPL_y (y_move rfl) rfl ?_
  refine SPL_y (y_build B102 rfl rfl (by simp only [fillL, List.foldl_cons, List.foldl_nil, List.set_cons_zero, List.set_cons_succ]; exact rfl)) rfl ?_
  refine SPL_one rfl (SP1_box rfl rfl rfl ?_)
  intro b
  refine SPL_y (y_assign rfl) rfl ?_
  refine SPL_y (y_assign rfl) rfl ?_
  refine SPL_nil ?_
  refine thenP_n ?_
  refine SP_ret ?_
  refine bodyP_ret (H' := [List.flatten [blk b 102 [.slice (some ⟨bp, 0, none⟩) lo lo, I hi, I 0], blk bp 184 (List.replicate lo [Value.pointer none]).flatten, []]]) (Res2 rfl rfl rfl) (by repeat (first | exact Part.nil _ | (apply Part.cons; (first | exact P0 | exact P1 | exact P2 | exact P3 | exact P4 | exact P5 | exact P6 | exact P7 | exact P8 | exact P9 | exact P10 | exact P11 | exact P12 | exact P13 | exact P14 | exact P15 | exact P16 | exact P17 | exact P18 | exact P19 | exact P20 | exact P21 | exact P22 | exact P23)) | (apply Part.flat; simp only [List.cons_append, List.nil_append]) | (apply Part.nilc))) ?_
  refine ⟨_, _, rfl, rfl, some ⟨bp, 0, none⟩, lo, List.replicate lo none, blk bp 184 (List.replicate lo [Value.pointer none]).flatten, [], ?_, ?_, ?_, ?_, ?_⟩
  · simp [countP_none]
  · rw [List.length_replicate]
    rw [flat_none]
    exact Arr.full (by simp)
  · have := Pages.snoc (pg := []) (bs := []) (s := []) ⟨rfl, rfl⟩ lo
    simpa using this
  · simp; omega
  · simp; omega

theorem mach_Size (b : Nat) (m : Mem) (s : Seg) (hm : isMach b m s) : Spec Tryz.prog 135 [.pointer (some ⟨b, 0, none⟩)] [s] (Ret fun v H => v = I (m.bytes.length / 8 : Nat) ∧ H = [s]) := by
  obtain ⟨pa, pc, pg, sp, sg, rfl, ap, hg, hpm, hm4⟩ := hm
  have hgl := hg.len
  refine Spec_flat ?_
  simp only [List.cons_append, List.nil_append]
  refine Spec_enter Tryz.func135 rfl Tryz.ntmps135 rfl ?_
  show SP _ _ _ _ _ [(0, _)] _
  refine SP_seq ?_
  refine SP_region ?_
  refine SPL_y (y_assign rfl) rfl ?_
  refine SPL_nil ?_
  refine thenP_n ?_
  refine SP_seq ?_
  refine SP_region ?_
  refine SPL_y (y_move rfl) rfl ?_
  refine SPL_y (y_nil rfl) rfl ?_
  refine SPL_y (y_fa fld_102_0 rfl) rfl ?_
  refine SPL_y (y_load Tryz.isAgg100 rfl (by repeat (first | exact Cell.head rfl | apply Cell.tail))) rfl ?_
  refine SPL_y (y_len_l Tryz.underlying100 rfl) rfl ?_
  refine SPL_y (y_assign rfl) rfl ?_
  refine SPL_nil ?_
  refine thenP_n ?_
  refine SP_ret ?_
  refine bodyP_ret (H' := [List.flatten [blk b 102 [.slice pa pg.length pc, I m.max, I (pg.countP Option.isSome : Nat)], sp, sg]]) (Res1 rfl rfl) (by repeat (first | exact Part.nil _ | (apply Part.cons; (first | exact P0 | exact P1 | exact P2 | exact P3 | exact P4 | exact P5 | exact P6 | exact P7 | exact P8 | exact P9 | exact P10 | exact P11 | exact P12 | exact P13 | exact P14 | exact P15 | exact P16 | exact P17 | exact P18 | exact P19 | exact P20 | exact P21 | exact P22 | exact P23)) | (apply Part.flat; simp only [List.cons_append, List.nil_append]) | (apply Part.nilc))) ?_
  refine ⟨?_, rfl⟩
  rw [hgl, Nat.mul_div_cancel_left _ (by omega)]

theorem mach_Grow (b : Nat) (m : Mem) (s : Seg) (n : Int) (hm : isMach b m s) : Spec Tryz.prog 136 [.pointer (some ⟨b, 0, none⟩), I n] [s] (Ret fun v H => ∃ s', v = I (grow m n).2 ∧ H = [s'] ∧ isMach b (grow m n).1 s') := by
  obtain ⟨pa, pc, pg, sp, sg, rfl, ap, hg, hpm, hm4⟩ := hm
  have hgl := hg.len
  refine Spec_flat ?_
  simp only [List.cons_append, List.nil_append]
  have hq : m.bytes.length / 8 = pg.length := by rw [hgl, Nat.mul_div_cancel_left _ (by omega)]
  refine Spec_enter Tryz.func136 rfl Tryz.ntmps136 rfl ?_
  show SP _ _ _ _ _ [(0, _), (1, _)] _
  refine SP_seq ?_
  refine SP_region ?_
  refine SPL_y (y_assign rfl) rfl ?_
  refine SPL_nil ?_
  refine thenP_n ?_
  refine SP_seq ?_
  refine SP_region ?_
  refine SPL_y (y_move rfl) rfl ?_
  refine SPL_y (y_nil rfl) rfl ?_
  refine SPL_y (y_fa fld_102_0 rfl) rfl ?_
  refine SPL_y (y_load Tryz.isAgg100 rfl (by repeat (first | exact Cell.head rfl | apply Cell.tail))) rfl ?_
  refine SPL_y (y_len_l Tryz.underlying100 rfl) rfl ?_
  refine SPL_y (y_assign rfl) rfl ?_
  refine SPL_nil ?_
  refine thenP_n ?_
  refine SP_seq ?_
  refine SP_region ?_
  refine SPL_y (y_move rfl) rfl ?_
  refine SPL_y (y_and rfl rfl (bit_andU32 n)) rfl ?_
  refine SPL_y (y_assign rfl) rfl ?_
  refine SPL_nil ?_
  refine thenP_n ?_
  refine SP_seq ?_
  refine SP_seq ?_
  refine SP_region ?_
  refine SPL_y (y_move rfl) rfl ?_
  refine SPL_y (y_move rfl) rfl ?_
  refine SPL_y (y_nil rfl) rfl ?_
  refine SPL_y (y_fa fld_102_1 rfl) rfl ?_
  refine SPL_y (y_load Tryz.isAgg3 rfl (by repeat (first | exact Cell.head rfl | apply Cell.tail))) rfl ?_
  refine SPL_y (y_move rfl) rfl ?_
  refine SPL_y (y_sub rfl rfl (by omega)) rfl ?_
  refine SPL_if (y_gtr rfl rfl) rfl ?_ ?_
  · intro h3_7
    refine SPL_nil ?_
    refine thenP_n ?_
    refine SP_cond_t rfl ?_
    refine SP_seq ?_
    refine SP_region ?_
    refine SPL_y (y_assign rfl) rfl ?_
    refine SPL_nil ?_
    refine thenP_n ?_
    refine SP_ret ?_
    refine thenP_ret (bodyP_ret (H' := [List.flatten [blk b 102 [.slice pa pg.length pc, I m.max, I (pg.countP Option.isSome : Nat)], sp, sg]]) (Res1 rfl rfl) (by repeat (first | exact Part.nil _ | (apply Part.cons; (first | exact P0 | exact P1 | exact P2 | exact P3 | exact P4 | exact P5 | exact P6 | exact P7 | exact P8 | exact P9 | exact P10 | exact P11 | exact P12 | exact P13 | exact P14 | exact P15 | exact P16 | exact P17 | exact P18 | exact P19 | exact P20 | exact P21 | exact P22 | exact P23)) | (apply Part.flat; simp only [List.cons_append, List.nil_append]) | (apply Part.nilc))) ?_)
    have e : grow m n = (m, -1) := by unfold grow; rw [if_pos (by omega)]
    rw [e]
    exact ⟨_, rfl, rfl, pa, pc, pg, sp, sg, rfl, ap, hg, hpm, hm4⟩
  intro h3_7
  refine SPL_nil ?_
  refine thenP_n ?_
  refine SP_cond_f rfl ?_
  refine SP_skip ?_
  refine thenP_n ?_
  refine SP_seq ?_
  obtain ⟨k, hk⟩ : ∃ k : Nat, n % 4294967296 = k := ⟨(n % 4294967296).toNat, by omega⟩
  rw [hk] at h3_7 ⊢
  refine SP_region ?_
  refine SPL_y (y_move rfl) rfl ?_
  refine SPL_y (y_move rfl) rfl ?_
  refine SPL_y (y_nil rfl) rfl ?_
  refine SPL_y (y_fa fld_102_0 rfl) rfl ?_
  refine SPL_y (y_load Tryz.isAgg100 rfl (by repeat (first | exact Cell.head rfl | apply Cell.tail))) rfl ?_
  refine SPL_y (y_move rfl) rfl ?_
  refine SPL_one rfl (SP1_appendZ el_100 Tryz.underlying3 rfl rfl rfl ap (by first | exact P0 | exact P1 | exact P2 | exact P3 | exact P4 | exact P5 | exact P6 | exact P7 | exact P8 | exact P9 | exact P10 | exact P11 | exact P12 | exact P13 | exact P14 | exact P15 | exact P16 | exact P17 | exact P18 | exact P19 | exact P20 | exact P21 | exact P22 | exact P23) (by omega) rfl ?_)
  intro a1 c1 s1 h1
  refine SPL_y (y_nil rfl) rfl ?_
  refine SPL_y (y_fa fld_102_0 rfl) rfl ?_
  refine SPL_one rfl (SP1_store Tryz.sizeOf100 rfl rfl rfl (by first | exact U0 | exact U1 | exact U2 | exact U3 | exact U4 | exact U5 | exact U6 | exact U7 | exact U8 | exact U9 | exact U10 | exact U11 | exact U12 | exact U13 | exact U14 | exact U15 | exact U16 | exact U17 | exact U18 | exact U19 | exact U20 | exact U21 | exact U22 | exact U23) (by rfl) ?_)
  refine SPL_nil ?_
  refine thenP_n ?_
  refine SP_seq ?_
  refine SP_region ?_
  refine SPL_y (y_move rfl) rfl ?_
  refine SPL_y (y_assign rfl) rfl ?_
  refine SPL_nil ?_
  refine thenP_n ?_
  refine SP_ret ?_
  refine bodyP_ret (H' := [List.flatten [blk b 102 [.slice a1 (pg.length + k) c1, I m.max, I (pg.countP Option.isSome : Nat)], s1, sg]]) (Res1 rfl rfl) (by repeat (first | exact Part.nil _ | (apply Part.cons; (first | exact P0 | exact P1 | exact P2 | exact P3 | exact P4 | exact P5 | exact P6 | exact P7 | exact P8 | exact P9 | exact P10 | exact P11 | exact P12 | exact P13 | exact P14 | exact P15 | exact P16 | exact P17 | exact P18 | exact P19 | exact P20 | exact P21 | exact P22 | exact P23)) | (apply Part.flat; simp only [List.cons_append, List.nil_append]) | (apply Part.nilc))) ?_
  have e : grow m n = ({ m with bytes := m.bytes ++ List.replicate (8 * k) 0 }, (pg.length : Int)) := by unfold grow; rw [if_neg (by omega), hk, hq]; rfl
  rw [e]
  refine ⟨_, rfl, rfl, a1, c1, pg ++ List.replicate k none, s1, sg, ?_, ?_, hg.snoc k, ?_, hm4⟩
  · simp [countP_none]
  · rw [List.length_append, List.length_replicate, List.map_append, List.map_replicate]; exact h1
  · simp; omega

theorem wid_le (op : Int) : wid op ≤ 8 := by
  unfold wid
  generalize (op - 19).toNat = k
  match k with
  | 0 | 1 | 2 | 3 | 4 | 5 | 6 | 7 | 8 | 9 => decide
  | k + 10 => simp
theorem wid_at (op : Int) (h1 : 19 ≤ op) (h2 : op ≤ 28) : ∃ c : UInt8, ([4, 8, 1, 1, 2, 2, 4, 8, 1, 2] : List UInt8)[(op - 19).toNat]? = some c ∧ IntKind.i64.wrap (c.toNat : Int) = wid op := by
  unfold wid
  have h : (op - 19).toNat < 10 := by omega
  generalize (op - 19).toNat = k at h
  match k, h with
  | 0, _ | 1, _ | 2, _ | 3, _ | 4, _ | 5, _ | 6, _ | 7, _ | 8, _ | 9, _ => exact ⟨_, rfl, by decide⟩
  | k + 10, h => omega

theorem mach_reach (b : Nat) (m : Mem) (s : Seg) (op f l ad off : Int) (hm : isMach b m s) (hf : 19 ≤ f) (hl : l ≤ 28) : Spec Tryz.prog 61 [.pointer (some ⟨b, 0, none⟩), I op, I f, I l, I ad, I off] [s] (Ret fun v H => v = .tuple #[I (reach m op f l ad off).1, I (reach m op f l ad off).2.1, I (reach m op f l ad off).2.2] ∧ H = [s]) := by
  obtain ⟨pa, pc, pg, sp, sg, rfl, ap, hg, hpm, hm4⟩ := hm
  have hgl := hg.len
  refine Spec_flat ?_
  simp only [List.cons_append, List.nil_append]
  refine Spec_enter Tryz.func61 rfl Tryz.ntmps61 rfl ?_
  show SP _ _ _ _ _ [(0, _), (1, _), (2, _), (3, _), (4, _), (5, _)] _
  refine SP_seq ?_
  refine SP_region ?_
  refine SPL_y (y_assign rfl) rfl ?_
  refine SPL_y (y_assign rfl) rfl ?_
  refine SPL_y (y_assign rfl) rfl ?_
  refine SPL_nil ?_
  refine thenP_n ?_
  refine SP_seq ?_
  refine SP_seq ?_
  refine SP_region ?_
  refine SPL_y (y_move rfl) rfl ?_
  refine SPL_y (y_move rfl) rfl ?_
  refine SPL_if (y_lss rfl rfl) rfl ?_ ?_
  · intro h1_2
    refine SPL_y (y_move rfl) rfl ?_
    refine SPL_gn rfl rfl rfl rfl ?_
    refine SPL_gn rfl rfl rfl rfl ?_
    refine SPL_gn rfl rfl rfl rfl ?_
    refine SPL_y (y_pick_t rfl rfl) rfl ?_
    refine SPL_nil ?_
    refine thenP_n ?_
    refine SP_cond_t rfl ?_
    refine SP_seq ?_
    refine SP_region ?_
    refine SPL_y (y_assign rfl) rfl ?_
    refine SPL_y (y_assign rfl) rfl ?_
    refine SPL_y (y_assign rfl) rfl ?_
    refine SPL_nil ?_
    refine thenP_n ?_
    refine SP_ret ?_
    refine thenP_ret (bodyP_ret (H' := [List.flatten [blk b 102 [.slice pa pg.length pc, I m.max, I (pg.countP Option.isSome : Nat)], sp, sg]]) (Res3 rfl rfl rfl rfl) (by repeat (first | exact Part.nil _ | (apply Part.cons; (first | exact P0 | exact P1 | exact P2 | exact P3 | exact P4 | exact P5 | exact P6 | exact P7 | exact P8 | exact P9 | exact P10 | exact P11 | exact P12 | exact P13 | exact P14 | exact P15 | exact P16 | exact P17 | exact P18 | exact P19 | exact P20 | exact P21 | exact P22 | exact P23)) | (apply Part.flat; simp only [List.cons_append, List.nil_append]) | (apply Part.nilc))) ?_)
    refine ⟨?_, rfl⟩
    have e : reach m op f l ad off = (0, 0, 9) := by unfold reach; rw [if_pos (by omega)]
    rw [e]
  intro h1_2
  refine SPL_y (y_move rfl) rfl ?_
  refine SPL_gy rfl rfl ?_
  refine SPL_y (y_move rfl) rfl ?_
  refine SPL_gy rfl rfl ?_
  refine SPL_y (y_move rfl) rfl ?_
  refine SPL_gy rfl rfl ?_
  refine SPL_if (y_gtr rfl rfl) rfl ?_ ?_
  · intro h1_6
    refine SPL_y (y_pick_f rfl rfl) rfl ?_
    refine SPL_nil ?_
    refine thenP_n ?_
    refine SP_cond_t rfl ?_
    refine SP_seq ?_
    refine SP_region ?_
    refine SPL_y (y_assign rfl) rfl ?_
    refine SPL_y (y_assign rfl) rfl ?_
    refine SPL_y (y_assign rfl) rfl ?_
    refine SPL_nil ?_
    refine thenP_n ?_
    refine SP_ret ?_
    refine thenP_ret (bodyP_ret (H' := [List.flatten [blk b 102 [.slice pa pg.length pc, I m.max, I (pg.countP Option.isSome : Nat)], sp, sg]]) (Res3 rfl rfl rfl rfl) (by repeat (first | exact Part.nil _ | (apply Part.cons; (first | exact P0 | exact P1 | exact P2 | exact P3 | exact P4 | exact P5 | exact P6 | exact P7 | exact P8 | exact P9 | exact P10 | exact P11 | exact P12 | exact P13 | exact P14 | exact P15 | exact P16 | exact P17 | exact P18 | exact P19 | exact P20 | exact P21 | exact P22 | exact P23)) | (apply Part.flat; simp only [List.cons_append, List.nil_append]) | (apply Part.nilc))) ?_)
    refine ⟨?_, rfl⟩
    have e : reach m op f l ad off = (0, 0, 9) := by unfold reach; rw [if_pos (by omega)]
    rw [e]
  intro h1_6
  refine SPL_y (y_pick_f rfl rfl) rfl ?_
  refine SPL_nil ?_
  refine thenP_n ?_
  refine SP_cond_f rfl ?_
  refine SP_skip ?_
  refine thenP_n ?_
  refine SP_seq ?_
  obtain ⟨c, hc, hcw⟩ := wid_at op (by omega) (by omega)
  refine SP_region ?_
  refine SPL_y (y_move rfl) rfl ?_
  refine SPL_y (y_sub rfl rfl (by omega)) rfl ?_
  refine SPL_y (y_idx_s Tryz.underlying9 rfl rfl (by omega) hc) rfl ?_
  refine SPL_y (y_conv Tryz.underlying5 Tryz.underlying3 rfl hcw) rfl ?_
  refine SPL_y (y_assign rfl) rfl ?_
  refine SPL_nil ?_
  refine thenP_n ?_
  refine SP_seq ?_
  refine SP_region ?_
  refine SPL_y (y_move rfl) rfl ?_
  refine SPL_y (y_conv Tryz.underlying3 Tryz.underlying151 rfl (IntKind.wrap_u32 ad)) rfl ?_
  refine SPL_y (y_conv Tryz.underlying151 Tryz.underlying3 rfl (wrap_i64 (x := ad % 4294967296) (by omega) (by omega))) rfl ?_
  refine SPL_y (y_move rfl) rfl ?_
  refine SPL_y (y_addw rfl rfl rfl) rfl ?_
  refine SPL_y (y_assign rfl) rfl ?_
  refine SPL_nil ?_
  refine thenP_n ?_
  refine SP_seq ?_
  refine SP_seq ?_
  refine SP_region ?_
  refine SPL_y (y_move rfl) rfl ?_
  refine SPL_if (y_lss rfl rfl) rfl ?_ ?_
  · intro h5_1
    refine SPL_y (y_move rfl) rfl ?_
    refine SPL_gn rfl rfl rfl rfl ?_
    refine SPL_gn rfl rfl rfl rfl ?_
    refine SPL_y (y_pick_t rfl rfl) rfl ?_
    refine SPL_y (y_move rfl) rfl ?_
    refine SPL_gn rfl rfl rfl rfl ?_
    refine SPL_gn rfl rfl rfl rfl ?_
    refine SPL_gn rfl rfl rfl rfl ?_
    refine SPL_gn rfl rfl rfl rfl ?_
    refine SPL_gn rfl rfl rfl rfl ?_
    refine SPL_gn rfl rfl rfl rfl ?_
    refine SPL_gn rfl rfl rfl rfl ?_
    refine SPL_gn rfl rfl rfl rfl ?_
    refine SPL_gn rfl rfl rfl rfl ?_
    refine SPL_gn rfl rfl rfl rfl ?_
    refine SPL_y (y_pick_t rfl rfl) rfl ?_
    refine SPL_nil ?_
    refine thenP_n ?_
    refine SP_cond_t rfl ?_
    refine SP_seq ?_
    refine SP_region ?_
    refine SPL_y (y_assign rfl) rfl ?_
    refine SPL_y (y_assign rfl) rfl ?_
    refine SPL_y (y_assign rfl) rfl ?_
    refine SPL_nil ?_
    refine thenP_n ?_
    refine SP_ret ?_
    refine thenP_ret (bodyP_ret (H' := [List.flatten [blk b 102 [.slice pa pg.length pc, I m.max, I (pg.countP Option.isSome : Nat)], sp, sg]]) (Res3 rfl rfl rfl rfl) (by repeat (first | exact Part.nil _ | (apply Part.cons; (first | exact P0 | exact P1 | exact P2 | exact P3 | exact P4 | exact P5 | exact P6 | exact P7 | exact P8 | exact P9 | exact P10 | exact P11 | exact P12 | exact P13 | exact P14 | exact P15 | exact P16 | exact P17 | exact P18 | exact P19 | exact P20 | exact P21 | exact P22 | exact P23)) | (apply Part.flat; simp only [List.cons_append, List.nil_append]) | (apply Part.nilc))) ?_)
    refine ⟨?_, rfl⟩
    have e : reach m op f l ad off = (0, 0, 12) := by unfold reach; rw [if_neg (by omega), if_pos (by omega)]
    rw [e]
  intro h5_1
  refine SPL_y (y_move rfl) rfl ?_
  refine SPL_gy rfl rfl ?_
  refine SPL_y (y_move rfl) rfl ?_
  refine SPL_gy rfl rfl ?_
  refine SPL_if (y_gtr rfl rfl) rfl ?_ ?_
  · intro h5_4
    refine SPL_y (y_pick_f rfl rfl) rfl ?_
    refine SPL_y (y_move rfl) rfl ?_
    refine SPL_gn rfl rfl rfl rfl ?_
    refine SPL_gn rfl rfl rfl rfl ?_
    refine SPL_gn rfl rfl rfl rfl ?_
    refine SPL_gn rfl rfl rfl rfl ?_
    refine SPL_gn rfl rfl rfl rfl ?_
    refine SPL_gn rfl rfl rfl rfl ?_
    refine SPL_gn rfl rfl rfl rfl ?_
    refine SPL_gn rfl rfl rfl rfl ?_
    refine SPL_gn rfl rfl rfl rfl ?_
    refine SPL_gn rfl rfl rfl rfl ?_
    refine SPL_y (y_pick_t rfl rfl) rfl ?_
    refine SPL_nil ?_
    refine thenP_n ?_
    refine SP_cond_t rfl ?_
    refine SP_seq ?_
    refine SP_region ?_
    refine SPL_y (y_assign rfl) rfl ?_
    refine SPL_y (y_assign rfl) rfl ?_
    refine SPL_y (y_assign rfl) rfl ?_
    refine SPL_nil ?_
    refine thenP_n ?_
    refine SP_ret ?_
    refine thenP_ret (bodyP_ret (H' := [List.flatten [blk b 102 [.slice pa pg.length pc, I m.max, I (pg.countP Option.isSome : Nat)], sp, sg]]) (Res3 rfl rfl rfl rfl) (by repeat (first | exact Part.nil _ | (apply Part.cons; (first | exact P0 | exact P1 | exact P2 | exact P3 | exact P4 | exact P5 | exact P6 | exact P7 | exact P8 | exact P9 | exact P10 | exact P11 | exact P12 | exact P13 | exact P14 | exact P15 | exact P16 | exact P17 | exact P18 | exact P19 | exact P20 | exact P21 | exact P22 | exact P23)) | (apply Part.flat; simp only [List.cons_append, List.nil_append]) | (apply Part.nilc))) ?_)
    refine ⟨?_, rfl⟩
    have e : reach m op f l ad off = (0, 0, 12) := by unfold reach; rw [if_neg (by omega), if_pos (by omega)]
    rw [e]
  intro h5_4
  refine SPL_y (y_pick_f rfl rfl) rfl ?_
  refine SPL_y (y_move rfl) rfl ?_
  refine SPL_gy rfl rfl ?_
  refine SPL_y (y_move rfl) rfl ?_
  refine SPL_gy rfl rfl ?_
  refine SPL_y (y_move rfl) rfl ?_
  refine SPL_gy rfl rfl ?_
  have hw := wid_le op
  have hwr : IntKind.i64.wrap (ad % 4294967296 + off) = ad % 4294967296 + off := wrap_i64 (by omega) (by omega)
  rw [hwr]
  refine SPL_y (y_add rfl rfl (by omega)) rfl ?_
  refine SPL_gy rfl rfl ?_
  refine SPL_y (y_move rfl) rfl ?_
  refine SPL_gy rfl rfl ?_
  refine SPL_y (y_nil rfl) rfl ?_
  refine SPL_gy rfl rfl ?_
  refine SPL_y (y_fa fld_102_0 rfl) rfl ?_
  refine SPL_gy rfl rfl ?_
  refine SPL_y (y_load Tryz.isAgg100 rfl (by repeat (first | exact Cell.head rfl | apply Cell.tail))) rfl ?_
  refine SPL_gy rfl rfl ?_
  refine SPL_y (y_len_l Tryz.underlying100 rfl) rfl ?_
  refine SPL_gy rfl rfl ?_
  refine SPL_y (y_mul rfl rfl (by omega)) rfl ?_
  refine SPL_gy rfl rfl ?_
  refine SPL_if (y_gtr rfl rfl) rfl ?_ ?_
  · intro h5_16
    refine SPL_y (y_pick_f rfl rfl) rfl ?_
    refine SPL_nil ?_
    refine thenP_n ?_
    refine SP_cond_t rfl ?_
    refine SP_seq ?_
    refine SP_region ?_
    refine SPL_y (y_assign rfl) rfl ?_
    refine SPL_y (y_assign rfl) rfl ?_
    refine SPL_y (y_assign rfl) rfl ?_
    refine SPL_nil ?_
    refine thenP_n ?_
    refine SP_ret ?_
    refine thenP_ret (bodyP_ret (H' := [List.flatten [blk b 102 [.slice pa pg.length pc, I m.max, I (pg.countP Option.isSome : Nat)], sp, sg]]) (Res3 rfl rfl rfl rfl) (by repeat (first | exact Part.nil _ | (apply Part.cons; (first | exact P0 | exact P1 | exact P2 | exact P3 | exact P4 | exact P5 | exact P6 | exact P7 | exact P8 | exact P9 | exact P10 | exact P11 | exact P12 | exact P13 | exact P14 | exact P15 | exact P16 | exact P17 | exact P18 | exact P19 | exact P20 | exact P21 | exact P22 | exact P23)) | (apply Part.flat; simp only [List.cons_append, List.nil_append]) | (apply Part.nilc))) ?_)
    refine ⟨?_, rfl⟩
    have e : reach m op f l ad off = (0, 0, 12) := by unfold reach; rw [if_neg (by omega), if_pos (by omega)]
    rw [e]
  intro h5_16
  refine SPL_y (y_pick_f rfl rfl) rfl ?_
  refine SPL_nil ?_
  refine thenP_n ?_
  refine SP_cond_f rfl ?_
  refine SP_skip ?_
  refine thenP_n ?_
  refine SP_seq ?_
  refine SP_region ?_
  refine SPL_y (y_move rfl) rfl ?_
  refine SPL_y (y_move rfl) rfl ?_
  refine SPL_y (y_assign rfl) rfl ?_
  refine SPL_y (y_assign rfl) rfl ?_
  refine SPL_y (y_assign rfl) rfl ?_
  refine SPL_nil ?_
  refine thenP_n ?_
  refine SP_ret ?_
  refine bodyP_ret (H' := [List.flatten [blk b 102 [.slice pa pg.length pc, I m.max, I (pg.countP Option.isSome : Nat)], sp, sg]]) (Res3 rfl rfl rfl rfl) (by repeat (first | exact Part.nil _ | (apply Part.cons; (first | exact P0 | exact P1 | exact P2 | exact P3 | exact P4 | exact P5 | exact P6 | exact P7 | exact P8 | exact P9 | exact P10 | exact P11 | exact P12 | exact P13 | exact P14 | exact P15 | exact P16 | exact P17 | exact P18 | exact P19 | exact P20 | exact P21 | exact P22 | exact P23)) | (apply Part.flat; simp only [List.cons_append, List.nil_append]) | (apply Part.nilc))) ?_
  refine ⟨?_, rfl⟩
  have e : reach m op f l ad off = (ad % 4294967296 + off, (wid op : Int), 0) := by unfold reach; rw [if_neg (by omega), if_neg (by omega)]
  rw [e]

theorem mach_split (ea : Nat) (h : ea < 9223372036854775808) : Spec Tryz.prog 91 [I ea] [] (Ret fun v H => v = .tuple #[I (ea / 8 : Nat), I (ea % 8 : Nat)] ∧ H = []) := by
  refine Spec_enter Tryz.func91 rfl Tryz.ntmps91 rfl ?_
  show SP _ _ _ _ _ [(0, _)] _
  refine SP_seq ?_
  refine SP_region ?_
  refine SPL_y (y_assign rfl) rfl ?_
  refine SPL_y (y_assign rfl) rfl ?_
  refine SPL_nil ?_
  refine thenP_n ?_
  refine SP_seq ?_
  refine SP_region ?_
  refine SPL_y (y_move rfl) rfl ?_
  refine SPL_y (y_andNot rfl rfl (bit_andNot7 ea h)) rfl ?_
  refine SPL_y (y_quo rfl rfl (by decide) (show IntKind.i64.wrap (((ea / 8 * 8 : Nat) : Int).tdiv 8) = ((ea / 8 : Nat) : Int) by rw [Int.tdiv_eq_ediv_of_nonneg (by omega), wrap_i64 (by omega) (by omega)]; omega)) rfl ?_
  refine SPL_y (y_move rfl) rfl ?_
  refine SPL_y (y_and rfl rfl (bit_and7 ea h)) rfl ?_
  refine SPL_y (y_assign rfl) rfl ?_
  refine SPL_y (y_assign rfl) rfl ?_
  refine SPL_nil ?_
  refine thenP_n ?_
  refine SP_ret ?_
  refine bodyP_ret (H' := []) (Res2 rfl rfl rfl) (by repeat (first | exact Part.nil _ | (apply Part.cons; (first | exact P0 | exact P1 | exact P2 | exact P3 | exact P4 | exact P5 | exact P6 | exact P7 | exact P8 | exact P9 | exact P10 | exact P11 | exact P12 | exact P13 | exact P14 | exact P15 | exact P16 | exact P17 | exact P18 | exact P19 | exact P20 | exact P21 | exact P22 | exact P23)) | (apply Part.flat; simp only [List.cons_append, List.nil_append]) | (apply Part.nilc))) ?_
  exact ⟨rfl, rfl⟩

theorem mach_gather (b : Nat) (m : Mem) (s : Seg) (ea bb o n c : Nat) (T : TypeId) (B : List UInt8) (hm : isMach b m s) (hB : o + n ≤ B.length) (hc : n ≤ c) (hz : (B.drop o).take n = List.replicate n 0) (hea : ea + n ≤ m.bytes.length) :
    Spec Tryz.prog 62 [.pointer (some ⟨b, 0, none⟩), I ea, .slice (some ⟨bb, o, none⟩) n c] [s, blk bb T (bytesV B)] (Ret fun v H => v = .tuple #[] ∧ H = [s, blk bb T (bytesV (win m B o ea n))]) := by
  obtain ⟨pa, pc, pg, sp, sg, rfl, ap, hg, hpm, hm4⟩ := hm
  have hgl := hg.len
  refine Spec_flat ?_
  simp only [List.cons_append, List.nil_append]
  refine Spec_enter Tryz.func62 rfl Tryz.ntmps62 rfl ?_
  show SP _ _ _ _ _ [(0, _), (1, _), (2, _)] _
  refine SP_block ?_
  refine SP_loop (G := Nat × Addr × Nat × Nat × List UInt8) (fun g => n - g.1) (fun g => [(0, .pointer (some ⟨b, 0, none⟩)), (1, I ((ea + g.1 : Nat) : Int)), (2, .slice (some g.2.1) g.2.2.1 g.2.2.2.1)]) (fun g => [blk b 102 [.slice pa pg.length pc, I m.max, I (pg.countP Option.isSome : Nat)], sp, sg, blk bb T (bytesV g.2.2.2.2)]) (fun g => g.1 ≤ n ∧ g.2.2.1 = n - g.1 ∧ g.2.2.2.1 = c - g.1 ∧ (g.1 < n → g.2.1 = ⟨bb, o + g.1, none⟩) ∧ g.2.2.2.2 = win m B o ea g.1) ((0, ⟨bb, o, none⟩, n, c, B)) (⟨Nat.zero_le _, rfl, rfl, fun _ => rfl, (win_zero m B o ea).symm⟩) (by repeat (first | exact Sub.nil _ | refine Sub.cons rfl ?_)) (by repeat (first | exact Part.nil _ | (apply Part.cons; (first | exact P0 | exact P1 | exact P2 | exact P3 | exact P4 | exact P5 | exact P6 | exact P7 | exact P8 | exact P9 | exact P10 | exact P11 | exact P12 | exact P13 | exact P14 | exact P15 | exact P16 | exact P17 | exact P18 | exact P19 | exact P20 | exact P21 | exact P22 | exact P23)) | (apply Part.flat; simp only [List.cons_append, List.nil_append]) | (apply Part.nilc))) ?_
  rintro ⟨j, wa, r, cc, W⟩ ⟨hj, hr, hcc, hwa, hW⟩
  dsimp only at hj hr hcc hwa hW ⊢
  subst hW
  refine SP_seq ?_
  refine SP_seq ?_
  refine SP_region ?_
  refine SPL_y (y_move rfl) rfl ?_
  refine SPL_y (y_len_l Tryz.underlying144 rfl) rfl ?_
  refine SPL_ifn (y_gtr rfl rfl) rfl ?_ ?_
  · intro h0_2
    refine SPL_nil ?_
    refine thenP_n ?_
    refine SP_cond_f rfl ?_
    refine SP_exit ?_
    refine thenP_exit ?_
    refine thenP_exit ?_
    refine inBlockP_hit ?_
    refine bodyP_end (H' := [List.flatten [blk b 102 [.slice pa pg.length pc, I m.max, I (pg.countP Option.isSome : Nat)], sp, sg], blk bb T (bytesV (win m B o ea j))]) (Res0 rfl) (by repeat (first | exact Part.nil _ | (apply Part.cons; (first | exact P0 | exact P1 | exact P2 | exact P3 | exact P4 | exact P5 | exact P6 | exact P7 | exact P8 | exact P9 | exact P10 | exact P11 | exact P12 | exact P13 | exact P14 | exact P15 | exact P16 | exact P17 | exact P18 | exact P19 | exact P20 | exact P21 | exact P22 | exact P23)) | (apply Part.flat; simp only [List.cons_append, List.nil_append]) | (apply Part.nilc))) ?_
    obtain rfl : j = n := by omega
    exact ⟨rfl, rfl⟩
  intro h0_2
  refine SPL_nil ?_
  refine thenP_n ?_
  refine SP_cond_t rfl ?_
  refine SP_skip ?_
  refine thenP_n ?_
  refine SP_block ?_
  refine SP_seq ?_
  refine SP_region ?_
  have hjn : j < n := by omega
  obtain rfl := hwa hjn
  have hi : (ea + j) / 8 < pg.length := by omega
  obtain ⟨k, hk1, hk2, hk3, hkk⟩ : ∃ k : Nat, k ≤ r ∧ k ≤ 8 - (ea + j) % 8 ∧ 0 < k ∧ (k = r ∨ k = 8 - (ea + j) % 8) := by
    by_cases h : r ≤ 8 - (ea + j) % 8
    · exact ⟨r, by omega, h, by omega, .inl rfl⟩
    · exact ⟨8 - (ea + j) % 8, by omega, by omega, by omega, .inr rfl⟩
  refine SPL_y (y_move rfl) rfl ?_
  refine SPL_one rfl (SP1_call (mach_split (ea + j) (by omega)) Tryz.call91 rfl rfl (by repeat (first | exact Part.nil _ | (apply Part.cons; (first | exact P0 | exact P1 | exact P2 | exact P3 | exact P4 | exact P5 | exact P6 | exact P7 | exact P8 | exact P9 | exact P10 | exact P11 | exact P12 | exact P13 | exact P14 | exact P15 | exact P16 | exact P17 | exact P18 | exact P19 | exact P20 | exact P21 | exact P22 | exact P23)) | (apply Part.flat; simp only [List.cons_append, List.nil_append]) | (apply Part.nilc))) ?_)
  rintro v post H' ⟨rfl, rfl⟩ hH
  simp only [List.cons_append, List.nil_append] at hH
  subst hH
  refine SPL_y (y_move rfl) rfl ?_
  refine SPL_y (y_ext rfl rfl) rfl ?_
  refine SPL_y (y_ext rfl rfl) rfl ?_
  refine SPL_y (y_assign rfl) rfl ?_
  refine SPL_y (y_assign rfl) rfl ?_
  refine SPL_nil ?_
  refine thenP_n ?_
  refine SP_seq ?_
  refine SP_region ?_
  refine SPL_y (y_move rfl) rfl ?_
  refine SPL_y (y_len_l Tryz.underlying144 rfl) rfl ?_
  refine SPL_y (y_move rfl) rfl ?_
  refine SPL_y (y_sub rfl rfl (by omega)) rfl ?_
  refine SPL_y (y_minE rfl rfl (show _ = (k : Int) by split <;> omega)) rfl ?_
  refine SPL_y (y_assign rfl) rfl ?_
  refine SPL_nil ?_
  refine thenP_n ?_
  refine SP_seq ?_
  refine SP_seq ?_
  refine SP_region ?_
  obtain ⟨bp, spp, rfl, hpc, hspp, rfl⟩ := ap.row (by omega)
  refine SPL_y (y_move rfl) rfl ?_
  refine SPL_y (y_nil rfl) rfl ?_
  refine SPL_y (y_fa fld_102_0 rfl) rfl ?_
  refine SPL_y (y_load Tryz.isAgg100 rfl (by repeat (first | exact Cell.head rfl | apply Cell.tail))) rfl ?_
  refine SPL_y (y_move rfl) rfl ?_
  refine SPL_y (y_ia Tryz.underlying100 Tryz.sizeOf184 rfl rfl (by omega)) rfl ?_
  refine SPL_y (y_load Tryz.isAgg184 rfl (by repeat (first | exact Cell.head (row1 (i := (ea + j) / 8) (by simp) hi) | apply Cell.tail))) rfl ?_
  refine SPL_y (y_assign rfl) rfl ?_
  refine SPL_nil ?_
  refine thenP_n ?_
  refine SP_seq ?_
  generalize hpi : pg[(ea + j) / 8] = pi
  refine SP_region ?_
  refine SPL_y (y_move rfl) rfl ?_
  refine SPL_ifn (y_pne_nil Tryz.underlying184 rfl rfl) rfl ?_ ?_
  · intro h4_1
    refine SPL_nil ?_
    refine thenP_n ?_
    refine SP_cond_f rfl ?_
    refine SP_skip ?_
    refine thenP_n ?_
    have hnil : rd m (ea + j) k = List.replicate k 0 := by
      rcases hg.get hi with ⟨_, h2⟩ | ⟨pb, s1, s2, h1, h2⟩
      · rw [rd_page (by omega), h2, List.drop_replicate, List.take_replicate, Nat.min_eq_left (by omega)]
      · rw [hpi] at h1; subst h1; simp at h4_1
    refine SP_region ?_
    refine SPL_y (y_move rfl) rfl ?_
    refine SPL_y (y_move rfl) rfl ?_
    refine SPL_y (y_from Tryz.underlying144 Tryz.sizeOf5 rfl rfl (by omega)) rfl ?_
    refine SPL_y (y_move rfl) rfl ?_
    refine SPL_y (y_move rfl) rfl ?_
    refine SPL_y (y_addE rfl rfl (by omega) (show _ = ((ea + (j + k) : Nat) : Int) by omega)) rfl ?_
    refine SPL_y (y_assign rfl) rfl ?_
    refine SPL_y (y_assign rfl) rfl ?_
    refine SPL_nil ?_
    refine inBlockP_n ?_
    refine thenP_n ?_
    exact Again.intro ((j + k, (if cc = ((k : Nat) : Int).toNat then ⟨bb, o + j, none⟩ else ⟨bb, o + j + ((k : Nat) : Int).toNat * 1, none⟩), r - k, cc - k, win m B o ea j)) (⟨by dsimp only; omega, by dsimp only; omega, by dsimp only; omega, fun h => (if_neg (by dsimp only at h; rw [Int.toNat_natCast]; omega)).trans (by rw [Int.toNat_natCast, Nat.mul_one, Nat.add_assoc]), win_nil hz (by omega) hB hnil⟩) (by simp only []; omega) (by repeat (first | exact Sub.nil _ | refine Sub.cons rfl ?_)) (by repeat (first | exact Part.nil _ | (apply Part.cons; (first | exact P0 | exact P1 | exact P2 | exact P3 | exact P4 | exact P5 | exact P6 | exact P7 | exact P8 | exact P9 | exact P10 | exact P11 | exact P12 | exact P13 | exact P14 | exact P15 | exact P16 | exact P17 | exact P18 | exact P19 | exact P20 | exact P21 | exact P22 | exact P23)) | (apply Part.flat; simp only [List.cons_append, List.nil_append]) | (apply Part.nilc)))
  intro h4_1
  refine SPL_nil ?_
  refine thenP_n ?_
  refine SP_cond_t rfl ?_
  obtain ⟨pb, s1, s2, hpe, rfl⟩ : ∃ b s1 s2, pi = some b ∧ sg = List.flatten [s1, blk b 5 (bytesV ((m.bytes.drop (8 * ((ea + j) / 8))).take 8)), s2] := by
    rcases hg.get hi with ⟨h1, _⟩ | ⟨pb, s1, s2, h1, h2⟩
    · rw [hpi] at h1; subst h1; simp at h4_1
    · exact ⟨pb, s1, s2, by rw [← hpi]; exact h1, h2⟩
  subst hpe
  refine SP_open (pre := [s1, blk pb 5 (bytesV ((m.bytes.drop (8 * ((ea + j) / 8))).take 8)), s2]) (by first | exact P0 | exact P1 | exact P2 | exact P3 | exact P4 | exact P5 | exact P6 | exact P7 | exact P8 | exact P9 | exact P10 | exact P11 | exact P12 | exact P13 | exact P14 | exact P15 | exact P16 | exact P17 | exact P18 | exact P19 | exact P20 | exact P21 | exact P22 | exact P23) ?_
  simp only [List.cons_append, List.nil_append]
  refine SP_region ?_
  refine SPL_y (y_move rfl) rfl ?_
  refine SPL_y (y_move rfl) rfl ?_
  refine SPL_y (y_nil rfl) rfl ?_
  refine SPL_y (y_move rfl) rfl ?_
  refine SPL_y (y_move rfl) rfl ?_
  refine SPL_y (y_move rfl) rfl ?_
  refine SPL_y (y_add rfl rfl (by omega)) rfl ?_
  refine SPL_y (y_arr_lh Tryz.underlying146 Tryz.sizeOf5 rfl rfl rfl (by omega)) rfl ?_
  refine SPL_one rfl (SP1_copy el_144 rfl rfl (Src.slice (k := 1) (vs := bytesV (rd m (ea + j) k)) (by rw [bytesV_len, rd_len (by omega)]; omega) (by repeat (first | exact Cells.head (by rw [bytesV_len, rd_len (by omega), bytesV_drop', bytesV_take, rd_page (by omega)]; congr 3; omega) | apply Cells.tail))) (bytesV_one _) (by first | exact U0 | exact U1 | exact U2 | exact U3 | exact U4 | exact U5 | exact U6 | exact U7 | exact U8 | exact U9 | exact U10 | exact U11 | exact U12 | exact U13 | exact U14 | exact U15 | exact U16 | exact U17 | exact U18 | exact U19 | exact U20 | exact U21 | exact U22 | exact U23) (by rw [bytesV_len, win_len (by omega) hB hea]; omega) (l' := bytesV (win m B o ea (j + k))) (by rw [win_copy (by omega) hB hea]; congr 3 <;> omega) rfl ?_)
  refine SPL_nil ?_
  refine thenP_n ?_
  refine SP_region ?_
  refine SPL_y (y_move rfl) rfl ?_
  refine SPL_y (y_move rfl) rfl ?_
  refine SPL_y (y_from Tryz.underlying144 Tryz.sizeOf5 rfl rfl (by omega)) rfl ?_
  refine SPL_y (y_move rfl) rfl ?_
  refine SPL_y (y_move rfl) rfl ?_
  refine SPL_y (y_addE rfl rfl (by omega) (show _ = ((ea + (j + k) : Nat) : Int) by omega)) rfl ?_
  refine SPL_y (y_assign rfl) rfl ?_
  refine SPL_y (y_assign rfl) rfl ?_
  refine SPL_nil ?_
  refine inBlockP_n ?_
  refine thenP_n ?_
  exact Again.intro ((j + k, (if cc = ((k : Nat) : Int).toNat then ⟨bb, o + j, none⟩ else ⟨bb, o + j + ((k : Nat) : Int).toNat * 1, none⟩), r - k, cc - k, win m B o ea (j + k))) (⟨by dsimp only; omega, by dsimp only; omega, by dsimp only; omega, fun h => (if_neg (by dsimp only at h; rw [Int.toNat_natCast]; omega)).trans (by rw [Int.toNat_natCast, Nat.mul_one, Nat.add_assoc]), rfl⟩) (by simp only []; omega) (by repeat (first | exact Sub.nil _ | refine Sub.cons rfl ?_)) (by repeat (first | exact Part.nil _ | (apply Part.cons; (first | exact P0 | exact P1 | exact P2 | exact P3 | exact P4 | exact P5 | exact P6 | exact P7 | exact P8 | exact P9 | exact P10 | exact P11 | exact P12 | exact P13 | exact P14 | exact P15 | exact P16 | exact P17 | exact P18 | exact P19 | exact P20 | exact P21 | exact P22 | exact P23)) | (apply Part.flat; simp only [List.cons_append, List.nil_append]) | (apply Part.nilc)))

end Go.Sl
