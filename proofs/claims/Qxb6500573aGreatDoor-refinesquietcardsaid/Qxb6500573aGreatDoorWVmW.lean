/- Walks: package vm, return and unwind (made by program out of short notes) -/
import Derived.Test.Qxb6500573aGreatDoorWVmV
namespace Go.Sl
open Go Go.Wl Go.Proofs
set_option maxRecDepth 100000
set_option linter.unusedVariables false
set_option linter.unusedSimpArgs false
theorem rd_u8 (rb lb cap : Nat) (sp : List Value × (Nat × Nat)) (r : Rd) (hr : rdOk cap r) : Spec Tryz.prog 131 [pt rb] [rdSeg rb lb cap sp (r)] (Ret fun v H => v = .int .u8 (u8M r) ∧ H = [rdSeg rb lb cap sp (tkR r 1)]) := by
  refine Spec_enter Tryz.func131 rfl Tryz.ntmps131 rfl ?_
  show SP _ _ _ _ _ [(0, _)] _
  refine SP_seq ?_
  refine SP_region ?_
  refine SPL_y (y_assign rfl) rfl ?_
  refine SPL_nil ?_
  refine thenP_n ?_
  refine SP_seq ?_
  refine SP_region ?_
  refine SPL_y (y_move rfl) rfl ?_
  refine SPL_one rfl (SP1_call (rd_take rb lb cap sp r hr 1 (by omega)) Tryz.call206 rfl rfl (by repeat (first | exact Part.nil _ | (apply Part.cons; with_reducible (first | exact P0 | exact P1 | exact P2 | exact P3 | exact P4 | exact P5 | exact P6 | exact P7 | exact P8 | exact P9 | exact P10 | exact P11 | exact P12 | exact P13 | exact P14 | exact P15 | exact P16 | exact P17 | exact P18 | exact P19 | exact P20 | exact P21 | exact P22 | exact P23)) | (apply Part.flat; simp only [List.cons_append, List.nil_append]) | (apply Part.cons; (first | exact P0 | exact P1 | exact P2 | exact P3 | exact P4 | exact P5 | exact P6 | exact P7 | exact P8 | exact P9 | exact P10 | exact P11 | exact P12 | exact P13 | exact P14 | exact P15 | exact P16 | exact P17 | exact P18 | exact P19 | exact P20 | exact P21 | exact P22 | exact P23)) | (apply Part.nilc))) ?_)
  rintro v post H' ⟨rfl, rfl⟩ hH
  try simp only [List.cons_append, List.nil_append] at hH
  subst hH
  refine SPL_y (y_assign rfl) rfl ?_
  refine SPL_nil ?_
  refine thenP_n ?_
  refine SP_seq ?_
  refine SP_seq ?_
  refine SP_region ?_
  refine SPL_y (y_move rfl) rfl ?_
  refine SPL_y (y_nil rfl) rfl ?_
  refine SPL_y (y_fa fld_248_2 rfl) rfl ?_
  refine SPL_y (y_load Tryz.isAgg4 rfl (by repeat (first | exact rd_bad | apply Cell.tail))) rfl ?_
  refine SPL_nil ?_
  refine thenP_n ?_
  refine SP_cond_b rfl ?_ ?_
  · intro hc9
    refine SP_seq ?_
    refine SP_region ?_
    refine SPL_y (y_assign rfl) rfl ?_
    refine SPL_nil ?_
    refine thenP_n ?_
    refine SP_ret ?_
    refine thenP_ret (bodyP_ret (H' := [rdSeg rb lb cap sp (tkR r 1)]) (Res1 rfl rfl) (by repeat (first | exact Part.nil _ | (apply Part.cons; with_reducible (first | exact P0 | exact P1 | exact P2 | exact P3 | exact P4 | exact P5 | exact P6 | exact P7 | exact P8 | exact P9 | exact P10 | exact P11 | exact P12 | exact P13 | exact P14 | exact P15 | exact P16 | exact P17 | exact P18 | exact P19 | exact P20 | exact P21 | exact P22 | exact P23)) | (apply Part.flat; simp only [List.cons_append, List.nil_append]) | (apply Part.cons; (first | exact P0 | exact P1 | exact P2 | exact P3 | exact P4 | exact P5 | exact P6 | exact P7 | exact P8 | exact P9 | exact P10 | exact P11 | exact P12 | exact P13 | exact P14 | exact P15 | exact P16 | exact P17 | exact P18 | exact P19 | exact P20 | exact P21 | exact P22 | exact P23)) | (apply Part.nilc))) ?_)
    exact ⟨by unfold u8M; rw [if_pos hc9], rfl⟩
  intro hc9
  refine SP_skip ?_
  refine thenP_n ?_
  refine SP_seq ?_
  obtain ⟨_, hk, hkr⟩ := tk_good hc9
  rw [tkV_good hr (by decide) hc9]
  have hby0 : ∀ H : Hp, Cell (rdSeg rb lb cap sp (tkR r 1) :: H) lb (0 + r.i * 1 + (0 : Int).toNat * 1) (.int .u8 ((r.l.getD (r.i + 0) 0).toNat : Nat)) := fun H => by
    have hj : r.i + 0 < (tkR r 1).l.length := by rw [tkR_l]; unfold tkOk at hk; omega
    have h0 := rd_byte (rb := rb) (lb := lb) (cap := cap) (sp := sp) (H := H) hj
    have e0 : (tkR r 1).l[r.i + 0] = r.l.getD (r.i + 0) 0 := by
      rw [List.getD_eq_getElem?_getD, ← tkR_l r 1, List.getElem?_eq_getElem hj]; rfl
    rw [e0] at h0
    rwa [show 0 + r.i * 1 + (0 : Int).toNat * 1 = r.i + 0 from by show 0 + r.i * 1 + 0 * 1 = _; omega]
  refine SP_region ?_
  refine SPL_y (y_move rfl) rfl ?_
  refine SPL_y (y_ia Tryz.underlying67 Tryz.sizeOf5 rfl rfl (by omega)) rfl ?_
  refine SPL_y (y_load Tryz.isAgg5 rfl (by repeat (first | exact (hby0 _) | apply Cell.tail))) rfl ?_
  refine SPL_y (y_assign rfl) rfl ?_
  refine SPL_nil ?_
  refine thenP_n ?_
  refine SP_ret ?_
  refine bodyP_ret (H' := [rdSeg rb lb cap sp (tkR r 1)]) (Res1 rfl rfl) (by repeat (first | exact Part.nil _ | (apply Part.cons; with_reducible (first | exact P0 | exact P1 | exact P2 | exact P3 | exact P4 | exact P5 | exact P6 | exact P7 | exact P8 | exact P9 | exact P10 | exact P11 | exact P12 | exact P13 | exact P14 | exact P15 | exact P16 | exact P17 | exact P18 | exact P19 | exact P20 | exact P21 | exact P22 | exact P23)) | (apply Part.flat; simp only [List.cons_append, List.nil_append]) | (apply Part.cons; (first | exact P0 | exact P1 | exact P2 | exact P3 | exact P4 | exact P5 | exact P6 | exact P7 | exact P8 | exact P9 | exact P10 | exact P11 | exact P12 | exact P13 | exact P14 | exact P15 | exact P16 | exact P17 | exact P18 | exact P19 | exact P20 | exact P21 | exact P22 | exact P23)) | (apply Part.nilc))) ?_
  exact ⟨by unfold u8M; rw [if_neg (by rw [hc9]; decide)]; rfl, rfl⟩

theorem wrap16 {n : Int} (h : 0 ≤ n ∧ n < 65536) : IntKind.u16.wrap n = n := by
  have e : IntKind.u16.wrap n = n % 65536 := by simp [IntKind.wrap, IntKind.bits, IntKind.signed]
  rw [e]; omega
theorem shl16 {c : Nat} (hc : c < 256) : IntKind.u16.wrap (((c : Nat) : Int) * 2 ^ (min (8 : Int).toNat IntKind.u16.bits)) = ((c * 256 : Nat) : Int) := by
  rw [show (2 : Int) ^ (min (8 : Int).toNat IntKind.u16.bits) = 256 from by decide, wrap16 (by omega)]
  omega
theorem or_byte {a c : Nat} (ha : a < 256) (hc : c < 256) : bitI .or .u16 ((a : Nat) : Int) ((c * 256 : Nat) : Int) = ((a + 256 * c : Nat) : Int) := by
  show IntKind.u16.wrap ((BitVec.ofInt 16 ((a : Nat) : Int) ||| BitVec.ofInt 16 ((c * 256 : Nat) : Int)).toNat : Int) = _
  have e2 := Nat.two_pow_add_eq_or_of_lt (i := 8) (b := a) (by omega) c
  rw [BitVec.ofInt_natCast, BitVec.ofInt_natCast, BitVec.toNat_or, BitVec.toNat_ofNat, BitVec.toNat_ofNat, Nat.mod_eq_of_lt (show a < 2 ^ 16 by omega), Nat.mod_eq_of_lt (show c * 256 < 2 ^ 16 by omega), Nat.or_comm, show c * 256 = 2 ^ 8 * c from by omega, ← e2, wrap16 (by omega)]
  omega
theorem rd_u16 (rb lb cap : Nat) (sp : List Value × (Nat × Nat)) (r : Rd) (hr : rdOk cap r) : Spec Tryz.prog 207 [pt rb] [rdSeg rb lb cap sp (r)] (Ret fun v H => v = .int .u16 (u16M r) ∧ H = [rdSeg rb lb cap sp (tkR r 2)]) := by
  refine Spec_enter Tryz.func207 rfl Tryz.ntmps207 rfl ?_
  show SP _ _ _ _ _ [(0, _)] _
  refine SP_seq ?_
  refine SP_region ?_
  refine SPL_y (y_assign rfl) rfl ?_
  refine SPL_nil ?_
  refine thenP_n ?_
  refine SP_seq ?_
  refine SP_region ?_
  refine SPL_y (y_move rfl) rfl ?_
  refine SPL_one rfl (SP1_call (rd_take rb lb cap sp r hr 2 (by omega)) Tryz.call206 rfl rfl (by repeat (first | exact Part.nil _ | (apply Part.cons; with_reducible (first | exact P0 | exact P1 | exact P2 | exact P3 | exact P4 | exact P5 | exact P6 | exact P7 | exact P8 | exact P9 | exact P10 | exact P11 | exact P12 | exact P13 | exact P14 | exact P15 | exact P16 | exact P17 | exact P18 | exact P19 | exact P20 | exact P21 | exact P22 | exact P23)) | (apply Part.flat; simp only [List.cons_append, List.nil_append]) | (apply Part.cons; (first | exact P0 | exact P1 | exact P2 | exact P3 | exact P4 | exact P5 | exact P6 | exact P7 | exact P8 | exact P9 | exact P10 | exact P11 | exact P12 | exact P13 | exact P14 | exact P15 | exact P16 | exact P17 | exact P18 | exact P19 | exact P20 | exact P21 | exact P22 | exact P23)) | (apply Part.nilc))) ?_)
  rintro v post H' ⟨rfl, rfl⟩ hH
  try simp only [List.cons_append, List.nil_append] at hH
  subst hH
  refine SPL_y (y_assign rfl) rfl ?_
  refine SPL_nil ?_
  refine thenP_n ?_
  refine SP_seq ?_
  refine SP_seq ?_
  refine SP_region ?_
  refine SPL_y (y_move rfl) rfl ?_
  refine SPL_y (y_nil rfl) rfl ?_
  refine SPL_y (y_fa fld_248_2 rfl) rfl ?_
  refine SPL_y (y_load Tryz.isAgg4 rfl (by repeat (first | exact rd_bad | apply Cell.tail))) rfl ?_
  refine SPL_nil ?_
  refine thenP_n ?_
  refine SP_cond_b rfl ?_ ?_
  · intro hc9
    refine SP_seq ?_
    refine SP_region ?_
    refine SPL_y (y_assign rfl) rfl ?_
    refine SPL_nil ?_
    refine thenP_n ?_
    refine SP_ret ?_
    refine thenP_ret (bodyP_ret (H' := [rdSeg rb lb cap sp (tkR r 2)]) (Res1 rfl rfl) (by repeat (first | exact Part.nil _ | (apply Part.cons; with_reducible (first | exact P0 | exact P1 | exact P2 | exact P3 | exact P4 | exact P5 | exact P6 | exact P7 | exact P8 | exact P9 | exact P10 | exact P11 | exact P12 | exact P13 | exact P14 | exact P15 | exact P16 | exact P17 | exact P18 | exact P19 | exact P20 | exact P21 | exact P22 | exact P23)) | (apply Part.flat; simp only [List.cons_append, List.nil_append]) | (apply Part.cons; (first | exact P0 | exact P1 | exact P2 | exact P3 | exact P4 | exact P5 | exact P6 | exact P7 | exact P8 | exact P9 | exact P10 | exact P11 | exact P12 | exact P13 | exact P14 | exact P15 | exact P16 | exact P17 | exact P18 | exact P19 | exact P20 | exact P21 | exact P22 | exact P23)) | (apply Part.nilc))) ?_)
    exact ⟨by unfold u16M; rw [if_pos hc9], rfl⟩
  intro hc9
  refine SP_skip ?_
  refine thenP_n ?_
  refine SP_seq ?_
  obtain ⟨_, hk, hkr⟩ := tk_good hc9
  rw [tkV_good hr (by decide) hc9]
  have hby0 : ∀ H : Hp, Cell (rdSeg rb lb cap sp (tkR r 2) :: H) lb (0 + r.i * 1 + (0 : Int).toNat * 1) (.int .u8 ((r.l.getD (r.i + 0) 0).toNat : Nat)) := fun H => by
    have hj : r.i + 0 < (tkR r 2).l.length := by rw [tkR_l]; unfold tkOk at hk; omega
    have h0 := rd_byte (rb := rb) (lb := lb) (cap := cap) (sp := sp) (H := H) hj
    have e0 : (tkR r 2).l[r.i + 0] = r.l.getD (r.i + 0) 0 := by
      rw [List.getD_eq_getElem?_getD, ← tkR_l r 2, List.getElem?_eq_getElem hj]; rfl
    rw [e0] at h0
    rwa [show 0 + r.i * 1 + (0 : Int).toNat * 1 = r.i + 0 from by show 0 + r.i * 1 + 0 * 1 = _; omega]
  have hby1 : ∀ H : Hp, Cell (rdSeg rb lb cap sp (tkR r 2) :: H) lb (0 + r.i * 1 + (1 : Int).toNat * 1) (.int .u8 ((r.l.getD (r.i + 1) 0).toNat : Nat)) := fun H => by
    have hj : r.i + 1 < (tkR r 2).l.length := by rw [tkR_l]; unfold tkOk at hk; omega
    have h0 := rd_byte (rb := rb) (lb := lb) (cap := cap) (sp := sp) (H := H) hj
    have e0 : (tkR r 2).l[r.i + 1] = r.l.getD (r.i + 1) 0 := by
      rw [List.getD_eq_getElem?_getD, ← tkR_l r 2, List.getElem?_eq_getElem hj]; rfl
    rw [e0] at h0
    rwa [show 0 + r.i * 1 + (1 : Int).toNat * 1 = r.i + 1 from by show 0 + r.i * 1 + 1 * 1 = _; omega]
  have hc0 : (r.l.getD (r.i + 0) 0).toNat < 256 := UInt8.toNat_lt _
  have hc1 : (r.l.getD (r.i + 1) 0).toNat < 256 := UInt8.toNat_lt _
  refine SP_draw 999 [(0, 0), (1, 0), (4, 0), (5, 0), (2, 1), (3, 0), (6, 1), (7, 0), (8, 0), (9, 0), (10, 0)] mixed (by kernel_rfl) (fun _ _ _ _ _ h => h) (Part.refl _) ?_
  refine SPO_p rfl (y_move rfl) rfl ?_
  refine SPO_p rfl (y_ia Tryz.underlying67 Tryz.sizeOf5 rfl rfl (by omega)) rfl ?_
  refine SPO_p rfl (y_move rfl) rfl ?_
  refine SPO_p rfl (y_ia Tryz.underlying67 Tryz.sizeOf5 rfl rfl (by omega)) rfl ?_
  refine SPO_h rfl (y_load Tryz.isAgg5 rfl (by repeat (first | exact (hby0 _) | apply Cell.tail))) rfl ?_
  refine SPO_p rfl (y_conv Tryz.underlying5 Tryz.underlying97 rfl (show IntKind.u16.wrap ((r.l.getD (r.i + 0) 0).toNat : Nat) = ((r.l.getD (r.i + 0) 0).toNat : Nat) from wrap16 (by omega))) rfl ?_
  refine SPO_h rfl (y_load Tryz.isAgg5 rfl (by repeat (first | exact (hby1 _) | apply Cell.tail))) rfl ?_
  refine SPO_p rfl (y_conv Tryz.underlying5 Tryz.underlying97 rfl (show IntKind.u16.wrap ((r.l.getD (r.i + 1) 0).toNat : Nat) = ((r.l.getD (r.i + 1) 0).toNat : Nat) from wrap16 (by omega))) rfl ?_
  refine SPO_p rfl (y_shl rfl rfl (by decide) (show IntKind.u16.wrap ((((r.l.getD (r.i + 1) 0).toNat : Nat) : Int) * 2 ^ (min (8 : Int).toNat IntKind.u16.bits)) = (((r.l.getD (r.i + 1) 0).toNat * 256 : Nat) : Int) from shl16 hc1)) rfl ?_
  refine SPO_p rfl (y_or rfl rfl (or_byte hc0 hc1)) rfl ?_
  refine SPO_p rfl (y_assign rfl) rfl ?_
  refine SPO_nil ?_
  refine thenP_n ?_
  refine SP_ret ?_
  refine bodyP_ret (H' := [rdSeg rb lb cap sp (tkR r 2)]) (Res1 rfl rfl) (by repeat (first | exact Part.nil _ | (apply Part.cons; with_reducible (first | exact P0 | exact P1 | exact P2 | exact P3 | exact P4 | exact P5 | exact P6 | exact P7 | exact P8 | exact P9 | exact P10 | exact P11 | exact P12 | exact P13 | exact P14 | exact P15 | exact P16 | exact P17 | exact P18 | exact P19 | exact P20 | exact P21 | exact P22 | exact P23)) | (apply Part.flat; simp only [List.cons_append, List.nil_append]) | (apply Part.cons; (first | exact P0 | exact P1 | exact P2 | exact P3 | exact P4 | exact P5 | exact P6 | exact P7 | exact P8 | exact P9 | exact P10 | exact P11 | exact P12 | exact P13 | exact P14 | exact P15 | exact P16 | exact P17 | exact P18 | exact P19 | exact P20 | exact P21 | exact P22 | exact P23)) | (apply Part.nilc))) ?_
  exact ⟨by unfold u16M; rw [if_neg (by rw [hc9]; decide)]; rfl, rfl⟩

end Go.Sl
