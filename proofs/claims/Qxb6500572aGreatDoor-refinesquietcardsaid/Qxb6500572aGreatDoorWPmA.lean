/- Walks: package prepm, the operand stack (made by program out of short notes) -/
import Derived.Test.Qxb6500572aGreatDoorFacts
import Derived.Test.Qxb6500572aGreatDoorMB
import Derived.Test.Qxb6500572aGreatDoorSlW
import Derived.Test.Qxb6500572aGreatDoorWPrepA
namespace Go.Sl
open Go Go.Wl Go.Proofs
set_option maxRecDepth 100000
set_option linter.unusedVariables false
set_option linter.unusedSimpArgs false
def ctlV (c : Ctl) : List Value := [I c.op, I c.bt, I c.height, I c.at_, .bool c.dead]
theorem ctlV_len (c : Ctl) : (ctlV c).length = 5 := rfl
/-- The model's checker, as it lies in the heap. -/
def isKm (k : Nat) (K : Km) (s : Seg) : Prop :=
  ∃ ta tc oa oc st so, s = List.flatten [blk k 174 [.slice ta K.st.length tc, .slice oa K.cs.length oc], st, so] ∧ Arr 5 1 ta K.st.length tc (bytesV K.st) st ∧ Arr 171 5 oa K.cs.length oc (K.cs.flatMap ctlV) so
theorem topM_eq {K : Km} (h : 0 < K.cs.length) : K.top = K.cs[K.cs.length - 1] := by
  unfold Km.top; rw [List.getD_eq_getElem?_getD, List.getElem?_eq_getElem (by omega)]; rfl
structure KB (K : Km) : Prop where
  st : K.st.length ≤ 1000000
  cs : K.cs.length ≤ 1000000
  pos : 0 < K.cs.length
  ht : K.top.height ≤ K.st.length
theorem popM_cs (K : Km) (w : UInt8) : (popM K w).1.cs = K.cs := by unfold popM; split <;> (try split) <;> rfl
theorem popM_st (K : Km) (w : UInt8) : (popM K w).1.st.length ≤ K.st.length := by unfold popM; split <;> (try split) <;> simp
theorem topM_of {K K' : Km} (h : K'.cs = K.cs) : K'.top = K.top := by unfold Km.top; rw [h]
theorem popM_ht {K : Km} (w : UInt8) (h : K.top.height ≤ K.st.length) : K.top.height ≤ (popM K w).1.st.length := by
  unfold popM; split <;> (try split) <;> simp <;> omega
theorem KB.pop {K : Km} (h : KB K) (w : UInt8) : KB (popM K w).1 :=
  ⟨Nat.le_trans (popM_st K w) h.st, by rw [popM_cs]; exact h.cs, by rw [popM_cs]; exact h.pos, by rw [topM_of (popM_cs K w)]; exact popM_ht w h.ht⟩
theorem popsRM_cs : ∀ (l : List UInt8) (K : Km), (popsRM K l).1.cs = K.cs
  | [], K => rfl
  | t :: ts, K => by
    unfold popsRM; split
    · rw [popsRM_cs ts]; exact popM_cs K t
    · exact popM_cs K t
theorem popsRM_st : ∀ (l : List UInt8) (K : Km), (popsRM K l).1.st.length ≤ K.st.length
  | [], K => Nat.le_refl _
  | t :: ts, K => by
    unfold popsRM; split
    · exact Nat.le_trans (popsRM_st ts _) (popM_st K t)
    · exact popM_st K t
theorem popsRM_KB : ∀ (l : List UInt8) {K : Km}, KB K → KB (popsRM K l).1
  | [], K, h => h
  | t :: ts, K, h => by
    unfold popsRM; split
    · exact popsRM_KB ts (h.pop t)
    · exact h.pop t
theorem KB.pops {K : Km} (h : KB K) (l : List UInt8) : KB (popsM K l).1 := popsRM_KB _ h
theorem popsM_cs (K : Km) (l : List UInt8) : (popsM K l).1.cs = K.cs := popsRM_cs _ K
theorem popsM_st (K : Km) (l : List UInt8) : (popsM K l).1.st.length ≤ K.st.length := popsRM_st _ K
/-- Downwards by index. -/
theorem popsM_step {l : List UInt8} {K : Km} {i : Nat} (hi : i < l.length) : popsM K (l.take (i + 1)) = if (popM K l[i]).2.2 then popsM (popM K l[i]).1 (l.take i) else ((popM K l[i]).1, false) := by
  unfold popsM
  rw [List.take_succ_eq_append_getElem hi, List.reverse_append]
  rfl

theorem pm_pop (k : Nat) (K : Km) (s : Seg) (want : UInt8) (hm : isKm k K s) (hK : KB K) : Spec Tryz.prog 102 [.pointer (some ⟨k, 0, none⟩), .int .u8 want.toNat] [s] (Ret fun v H => ∃ s', v = .tuple #[.int .u8 (popM K want).2.1.toNat, .bool (popM K want).2.2] ∧ H = [s'] ∧ isKm k (popM K want).1 s') := by
  have hp := hK.pos
  have hz1 := hK.st
  have hz2 := hK.cs
  obtain ⟨ta, tc, oa, oc, st, so, rfl, hst, hop⟩ := hm
  refine Spec_flat ?_
  simp only [List.cons_append, List.nil_append]
  refine Spec_enter Tryz.func102 rfl Tryz.ntmps102 rfl ?_
  show SP _ _ _ _ _ [(0, _), (1, _)] _
  refine SP_seq ?_
  refine SP_region ?_
  refine SPL_y (y_assign rfl) rfl ?_
  refine SPL_y (y_assign rfl) rfl ?_
  refine SPL_nil ?_
  refine thenP_n ?_
  refine SP_seq ?_
  obtain ⟨bo, spo, rfl, hoc, hspo, rfl⟩ := hop.row (by omega)
  obtain ⟨c, hc⟩ : ∃ c, K.cs[K.cs.length - 1] = c := ⟨_, rfl⟩
  have htop : K.top = c := by rw [topM_eq hK.pos, hc]
  have hht := hK.ht
  rw [htop] at hht
  refine SP_draw 13 [(0, 0), (1, 0), (2, 0), (4, 0), (5, 0), (6, 0), (3, 1), (7, 1), (8, 0), (9, 0), (10, 0), (11, 1), (12, 2), (13, 3)] mixed (by kernel_rfl) (fun _ _ _ _ _ h => h) (Part.refl _) ?_
  refine SPO_p rfl (y_move rfl) rfl ?_
  refine SPO_p rfl (y_nil rfl) rfl ?_
  refine SPO_p rfl (y_fa fld_174_1 rfl) rfl ?_
  refine SPO_p rfl (y_move rfl) rfl ?_
  refine SPO_p rfl (y_nil rfl) rfl ?_
  refine SPO_p rfl (y_fa fld_174_1 rfl) rfl ?_
  refine SPO_h rfl (y_load Tryz.isAgg172 rfl (by repeat (first | exact Cell.head rfl | apply Cell.tail))) rfl ?_
  refine SPO_h rfl (y_load Tryz.isAgg172 rfl (by repeat (first | exact Cell.head rfl | apply Cell.tail))) rfl ?_
  refine SPO_p rfl (y_len_l Tryz.underlying172 rfl) rfl ?_
  refine SPO_p rfl (y_sub rfl rfl (by omega)) rfl ?_
  refine SPO_p rfl (y_ia Tryz.underlying172 Tryz.sizeOf171 rfl rfl (by omega)) rfl ?_
  refine SPO_h rfl (y_loads Tryz.isAgg171 Tryz.sizeOf171 rfl rfl (by repeat (first | exact flat_cells ctlV_len (i := K.cs.length - 1) (by omega) (by omega) | apply Cells.tail))) rfl ?_
  rw [hc]
  refine SPO_a rfl rfl (SP1_alloc Tryz.zeroValue171 rfl rfl ?_)
  intro b6
  refine ⟨⟨_, (by repeat (first | exact Part.nil _ | (apply Part.cons; (first | exact P0 | exact P1 | exact P2 | exact P3 | exact P4 | exact P5 | exact P6 | exact P7 | exact P8 | exact P9 | exact P10 | exact P11 | exact P12 | exact P13 | exact P14 | exact P15 | exact P16 | exact P17 | exact P18 | exact P19 | exact P20 | exact P21 | exact P22 | exact P23)) | (apply Part.flat; simp only [List.cons_append, List.nil_append]) | (apply Part.nilc)))⟩, ?_⟩
  refine SPO_z (k := 0) rfl rfl (SP1_storeAll Tryz.sizeOf171 rfl rfl rfl rfl rfl (by first | exact U0 | exact U1 | exact U2 | exact U3 | exact U4 | exact U5 | exact U6 | exact U7 | exact U8 | exact U9 | exact U10 | exact U11 | exact U12 | exact U13 | exact U14 | exact U15 | exact U16 | exact U17 | exact U18 | exact U19 | exact U20 | exact U21 | exact U22 | exact U23) (by rfl) ?_)
  refine SPO_nil ?_
  refine thenP_n ?_
  refine SP_seq ?_
  refine SP_seq ?_
  refine SP_draw 999 [(0, 0), (1, 0), (2, 0), (5, 0), (3, 1), (4, 0), (6, 1), (7, 0)] mixed (by kernel_rfl) (fun _ _ _ _ _ h => h) (Part.refl _) ?_
  refine SPO_p rfl (y_move rfl) rfl ?_
  refine SPO_p rfl (y_nil rfl) rfl ?_
  refine SPO_p rfl (y_fa fld_174_0 rfl) rfl ?_
  refine SPO_p rfl (y_fa fld_171_2 rfl) rfl ?_
  refine SPO_h rfl (y_load Tryz.isAgg144 rfl (by repeat (first | exact Cell.head rfl | apply Cell.tail))) rfl ?_
  refine SPO_p rfl (y_len_l Tryz.underlying144 rfl) rfl ?_
  refine SPO_h rfl (y_load Tryz.isAgg3 rfl (by repeat (first | exact Cell.head rfl | apply Cell.tail))) rfl ?_
  refine SPO_if rfl (y_eql rfl rfl) rfl ?_ ?_
  · intro h2_7
    refine SPO_nil ?_
    refine thenP_n ?_
    refine SP_cond_t rfl ?_
    refine SP_seq ?_
    refine SP_draw 999 [(0, 0), (1, 0), (3, 0), (2, 1), (4, 0)] mixed (by kernel_rfl) (fun _ _ _ _ _ h => h) (Part.refl _) ?_
    refine SPO_p rfl (y_move rfl) rfl ?_
    refine SPO_p rfl (y_fa fld_171_4 rfl) rfl ?_
    refine SPO_p rfl (y_assign rfl) rfl ?_
    refine SPO_h rfl (y_load Tryz.isAgg4 rfl (by repeat (first | exact Cell.head rfl | apply Cell.tail))) rfl ?_
    refine SPO_p rfl (y_assign rfl) rfl ?_
    refine SPO_nil ?_
    refine thenP_n ?_
    refine SP_ret ?_
    refine thenP_ret (bodyP_ret (H' := [List.flatten [blk k 174 [.slice ta K.st.length tc, .slice (some ⟨bo, 0, none⟩) K.cs.length oc], st, blk bo 171 (K.cs.flatMap ctlV ++ spo)]]) (Res2 rfl rfl rfl) (by repeat (first | exact Part.nil _ | (apply Part.cons; (first | exact P0 | exact P1 | exact P2 | exact P3 | exact P4 | exact P5 | exact P6 | exact P7 | exact P8 | exact P9 | exact P10 | exact P11 | exact P12 | exact P13 | exact P14 | exact P15 | exact P16 | exact P17 | exact P18 | exact P19 | exact P20 | exact P21 | exact P22 | exact P23)) | (apply Part.flat; simp only [List.cons_append, List.nil_append]) | (apply Part.nilc))) ?_)
    have e : popM K want = (K, want, c.dead) := by unfold popM; rw [htop, if_pos (by omega)]
    rw [e]
    exact ⟨_, rfl, rfl, ta, tc, some ⟨bo, 0, none⟩, oc, st, _, rfl, hst, hop⟩
  intro h2_7
  refine SPO_nil ?_
  refine thenP_n ?_
  refine SP_cond_f rfl ?_
  refine SP_skip ?_
  refine thenP_n ?_
  refine SP_seq ?_
  have hsl : K.st.length - 1 < K.st.length := by omega
  have hgd : K.st.getD (K.st.length - 1) 0 = K.st[K.st.length - 1] := by rw [List.getD_eq_getElem?_getD, List.getElem?_eq_getElem hsl]; rfl
  have hnl : (K.st.take (K.st.length - 1)).length = ((K.st.length : Int) - 1).toNat := by rw [List.length_take]; omega
  have hct : Arr 5 1 ta ((K.st.length : Int) - 1).toNat tc (bytesV (K.st.take (K.st.length - 1))) st := by
    have := hst.cut (j := ((K.st.length : Int) - 1).toNat) (by omega)
    rw [Nat.mul_one, bytesV_take] at this
    rwa [show ((K.st.length : Int) - 1).toNat = K.st.length - 1 by omega] at this ⊢
  obtain ⟨bt, spt, rfl, htc, hspt, rfl⟩ := hst.row (by omega)
  refine SP_draw 999 [(0, 0), (1, 0), (2, 0), (4, 0), (5, 0), (6, 0), (3, 1), (7, 1), (8, 0), (9, 0), (10, 0), (11, 1), (12, 0)] mixed (by kernel_rfl) (fun _ _ _ _ _ h => h) (Part.refl _) ?_
  refine SPO_p rfl (y_move rfl) rfl ?_
  refine SPO_p rfl (y_nil rfl) rfl ?_
  refine SPO_p rfl (y_fa fld_174_0 rfl) rfl ?_
  refine SPO_p rfl (y_move rfl) rfl ?_
  refine SPO_p rfl (y_nil rfl) rfl ?_
  refine SPO_p rfl (y_fa fld_174_0 rfl) rfl ?_
  refine SPO_h rfl (y_load Tryz.isAgg144 rfl (by repeat (first | exact Cell.head rfl | apply Cell.tail))) rfl ?_
  refine SPO_h rfl (y_load Tryz.isAgg144 rfl (by repeat (first | exact Cell.head rfl | apply Cell.tail))) rfl ?_
  refine SPO_p rfl (y_len_l Tryz.underlying144 rfl) rfl ?_
  refine SPO_p rfl (y_sub rfl rfl (by omega)) rfl ?_
  refine SPO_p rfl (y_ia Tryz.underlying144 Tryz.sizeOf5 rfl rfl (by omega)) rfl ?_
  refine SPO_h rfl (y_load Tryz.isAgg5 rfl (by repeat (first | exact Cell.head (row1 (i := K.st.length - 1) (by omega) hsl) | apply Cell.tail))) rfl ?_
  refine SPO_p rfl (y_assign rfl) rfl ?_
  refine SPO_nil ?_
  refine thenP_n ?_
  refine SP_seq ?_
  refine SP_draw 14 [(0, 0), (1, 0), (2, 0), (3, 0), (5, 0), (6, 0), (7, 0), (4, 1), (8, 1), (9, 0), (10, 0), (11, 0), (12, 0), (13, 0), (14, 3)] mixed (by kernel_rfl) (fun _ _ _ _ _ h => h) (Part.refl _) ?_
  refine SPO_p rfl (y_move rfl) rfl ?_
  refine SPO_p rfl (y_move rfl) rfl ?_
  refine SPO_p rfl (y_nil rfl) rfl ?_
  refine SPO_p rfl (y_fa fld_174_0 rfl) rfl ?_
  refine SPO_p rfl (y_move rfl) rfl ?_
  refine SPO_p rfl (y_nil rfl) rfl ?_
  refine SPO_p rfl (y_fa fld_174_0 rfl) rfl ?_
  refine SPO_h rfl (y_load Tryz.isAgg144 rfl (by repeat (first | exact Cell.head rfl | apply Cell.tail))) rfl ?_
  refine SPO_h rfl (y_load Tryz.isAgg144 rfl (by repeat (first | exact Cell.head rfl | apply Cell.tail))) rfl ?_
  refine SPO_p rfl (y_len_l Tryz.underlying144 rfl) rfl ?_
  refine SPO_p rfl (y_sub rfl rfl (by omega)) rfl ?_
  refine SPO_p rfl (y_cut hst Tryz.underlying144 Tryz.sizeOf5 rfl rfl (by omega)) rfl ?_
  refine SPO_p rfl (y_nil rfl) rfl ?_
  refine SPO_p rfl (y_fa fld_174_0 rfl) rfl ?_
  refine SPO_z (k := 0) rfl rfl (SP1_store Tryz.sizeOf144 rfl rfl rfl (by first | exact U0 | exact U1 | exact U2 | exact U3 | exact U4 | exact U5 | exact U6 | exact U7 | exact U8 | exact U9 | exact U10 | exact U11 | exact U12 | exact U13 | exact U14 | exact U15 | exact U16 | exact U17 | exact U18 | exact U19 | exact U20 | exact U21 | exact U22 | exact U23) (by rfl) ?_)
  refine SPO_nil ?_
  refine thenP_n ?_
  refine SP_seq ?_
  refine SP_seq ?_
  refine SP_region ?_
  refine SPL_y (y_move rfl) rfl ?_
  refine SPL_if (y_eql rfl rfl) rfl ?_ ?_
  · intro h6_1
    refine SPL_nil ?_
    refine thenP_n ?_
    refine SP_cond_t rfl ?_
    refine SP_seq ?_
    refine SP_region ?_
    refine SPL_y (y_move rfl) rfl ?_
    refine SPL_y (y_assign rfl) rfl ?_
    refine SPL_y (y_assign rfl) rfl ?_
    refine SPL_nil ?_
    refine thenP_n ?_
    refine SP_ret ?_
    refine thenP_ret (bodyP_ret (H' := [List.flatten [blk k 174 [.slice (some ⟨bt, 0, none⟩) ((K.st.length : Int) - 1).toNat tc, .slice (some ⟨bo, 0, none⟩) K.cs.length oc], blk bt 5 (bytesV K.st ++ spt), blk bo 171 (K.cs.flatMap ctlV ++ spo)]]) (Res2 rfl rfl rfl) (by repeat (first | exact Part.nil _ | (apply Part.cons; (first | exact P0 | exact P1 | exact P2 | exact P3 | exact P4 | exact P5 | exact P6 | exact P7 | exact P8 | exact P9 | exact P10 | exact P11 | exact P12 | exact P13 | exact P14 | exact P15 | exact P16 | exact P17 | exact P18 | exact P19 | exact P20 | exact P21 | exact P22 | exact P23)) | (apply Part.flat; simp only [List.cons_append, List.nil_append]) | (apply Part.nilc))) ?_)
    have e : popM K want = ({ K with st := K.st.take (K.st.length - 1) }, want, true) := by unfold popM; rw [htop, if_neg (by omega), hgd, if_pos (u8_z.1 h6_1)]
    rw [e]
    exact ⟨_, rfl, rfl, ⟨some ⟨bt, 0, none⟩, tc, some ⟨bo, 0, none⟩, oc, _, _, by dsimp only; rw [hnl], by dsimp only; rw [hnl]; exact hct, hop⟩⟩
  intro h6_1
  refine SPL_nil ?_
  refine thenP_n ?_
  refine SP_cond_f rfl ?_
  refine SP_skip ?_
  refine thenP_n ?_
  refine SP_seq ?_
  refine SP_region ?_
  refine SPL_y (y_move rfl) rfl ?_
  refine SPL_y (y_move rfl) rfl ?_
  refine SPL_if (y_eql rfl rfl) rfl ?_ ?_
  · intro h8_2
    refine SPL_y (y_move rfl) rfl ?_
    refine SPL_gn rfl rfl rfl rfl ?_
    refine SPL_gn rfl rfl rfl rfl ?_
    refine SPL_gn rfl rfl rfl rfl ?_
    refine SPL_y (y_pick_t rfl rfl) rfl ?_
    refine SPL_y (y_assign rfl) rfl ?_
    refine SPL_y (y_assign rfl) rfl ?_
    refine SPL_nil ?_
    refine thenP_n ?_
    refine SP_ret ?_
    refine bodyP_ret (H' := [List.flatten [blk k 174 [.slice (some ⟨bt, 0, none⟩) ((K.st.length : Int) - 1).toNat tc, .slice (some ⟨bo, 0, none⟩) K.cs.length oc], blk bt 5 (bytesV K.st ++ spt), blk bo 171 (K.cs.flatMap ctlV ++ spo)]]) (Res2 rfl rfl rfl) (by repeat (first | exact Part.nil _ | (apply Part.cons; (first | exact P0 | exact P1 | exact P2 | exact P3 | exact P4 | exact P5 | exact P6 | exact P7 | exact P8 | exact P9 | exact P10 | exact P11 | exact P12 | exact P13 | exact P14 | exact P15 | exact P16 | exact P17 | exact P18 | exact P19 | exact P20 | exact P21 | exact P22 | exact P23)) | (apply Part.flat; simp only [List.cons_append, List.nil_append]) | (apply Part.nilc))) ?_
    have e : popM K want = ({ K with st := K.st.take (K.st.length - 1) }, K.st[K.st.length - 1], decide (want = 0 ∨ K.st[K.st.length - 1] = want)) := by unfold popM; rw [htop, if_neg (by omega), hgd, if_neg (fun h => h6_1 (u8_z.2 h))]
    rw [e]
    refine ⟨_, ?_, rfl, ⟨some ⟨bt, 0, none⟩, tc, some ⟨bo, 0, none⟩, oc, _, _, by dsimp only; rw [hnl], by dsimp only; rw [hnl]; exact hct, hop⟩⟩
    dsimp only
    congr 4
    refine congrArg Value.bool ?_
    first
      | (symm; apply decide_eq_true; left; exact u8_z.1 h8_2)
      | (apply decide_eq_decide.2; rw [u8_ne]; constructor
         · intro h; exact .inr h
         · rintro (h | h)
           · exact absurd (u8_z.2 h) h8_2
           · exact h)
  intro h8_2
  refine SPL_y (y_move rfl) rfl ?_
  refine SPL_gy rfl rfl ?_
  refine SPL_y (y_move rfl) rfl ?_
  refine SPL_gy rfl rfl ?_
  refine SPL_y (y_move rfl) rfl ?_
  refine SPL_gy rfl rfl ?_
  refine SPL_y (y_eql rfl rfl) rfl ?_
  refine SPL_y (y_pick_f rfl rfl) rfl ?_
  refine SPL_y (y_assign rfl) rfl ?_
  refine SPL_y (y_assign rfl) rfl ?_
  refine SPL_nil ?_
  refine thenP_n ?_
  refine SP_ret ?_
  refine bodyP_ret (H' := [List.flatten [blk k 174 [.slice (some ⟨bt, 0, none⟩) ((K.st.length : Int) - 1).toNat tc, .slice (some ⟨bo, 0, none⟩) K.cs.length oc], blk bt 5 (bytesV K.st ++ spt), blk bo 171 (K.cs.flatMap ctlV ++ spo)]]) (Res2 rfl rfl rfl) (by repeat (first | exact Part.nil _ | (apply Part.cons; (first | exact P0 | exact P1 | exact P2 | exact P3 | exact P4 | exact P5 | exact P6 | exact P7 | exact P8 | exact P9 | exact P10 | exact P11 | exact P12 | exact P13 | exact P14 | exact P15 | exact P16 | exact P17 | exact P18 | exact P19 | exact P20 | exact P21 | exact P22 | exact P23)) | (apply Part.flat; simp only [List.cons_append, List.nil_append]) | (apply Part.nilc))) ?_
  have e : popM K want = ({ K with st := K.st.take (K.st.length - 1) }, K.st[K.st.length - 1], decide (want = 0 ∨ K.st[K.st.length - 1] = want)) := by unfold popM; rw [htop, if_neg (by omega), hgd, if_neg (fun h => h6_1 (u8_z.2 h))]
  rw [e]
  refine ⟨_, ?_, rfl, ⟨some ⟨bt, 0, none⟩, tc, some ⟨bo, 0, none⟩, oc, _, _, by dsimp only; rw [hnl], by dsimp only; rw [hnl]; exact hct, hop⟩⟩
  dsimp only
  congr 4
  refine congrArg Value.bool ?_
  first
    | (symm; apply decide_eq_true; left; exact u8_z.1 h8_2)
    | (apply decide_eq_decide.2; rw [u8_ne]; constructor
       · intro h; exact .inr h
       · rintro (h | h)
         · exact absurd (u8_z.2 h) h8_2
         · exact h)

theorem pm_pops (k : Nat) (K : Km) (s : Seg) (l : List UInt8) (hm : isKm k K s) (hK : KB K) (hl : l.length ≤ 1000) : Spec Tryz.prog 92 [.pointer (some ⟨k, 0, none⟩), S l] [s] (Ret fun v H => ∃ s', v = .bool (popsM K l).2 ∧ H = [s'] ∧ isKm k (popsM K l).1 s') := by
  refine Spec_enter Tryz.func92 rfl Tryz.ntmps92 rfl ?_
  show SP _ _ _ _ _ [(0, _), (1, _)] _
  refine SP_seq ?_
  refine SP_region ?_
  refine SPL_y (y_assign rfl) rfl ?_
  refine SPL_nil ?_
  refine thenP_n ?_
  refine SP_seq ?_
  refine SP_seq ?_
  refine SP_region ?_
  refine SPL_y (y_move rfl) rfl ?_
  refine SPL_y (y_len_s Tryz.underlying9 rfl) rfl ?_
  refine SPL_y (y_sub rfl rfl (by omega)) rfl ?_
  refine SPL_y (y_assign rfl) rfl ?_
  refine SPL_nil ?_
  refine thenP_n ?_
  refine SP_block ?_
  refine SP_loop (G := Nat × Km × Seg) (fun g => g.1) (fun g => [(0, .pointer (some ⟨k, 0, none⟩)), (1, S l), (5, I ((g.1 : Int) - 1))]) (fun g => [g.2.2]) (fun g => g.1 ≤ l.length ∧ isKm k g.2.1 g.2.2 ∧ KB g.2.1 ∧ popsM K l = popsM g.2.1 (l.take g.1)) ((l.length, K, s)) (⟨Nat.le_refl _, hm, hK, by simp⟩) (by repeat (first | exact Sub.nil _ | refine Sub.cons rfl ?_)) (by repeat (first | exact Part.nil _ | (apply Part.cons; (first | exact P0 | exact P1 | exact P2 | exact P3 | exact P4 | exact P5 | exact P6 | exact P7 | exact P8 | exact P9 | exact P10 | exact P11 | exact P12 | exact P13 | exact P14 | exact P15 | exact P16 | exact P17 | exact P18 | exact P19 | exact P20 | exact P21 | exact P22 | exact P23)) | (apply Part.flat; simp only [List.cons_append, List.nil_append]) | (apply Part.nilc))) ?_
  rintro ⟨p, K', s0⟩ ⟨hp, hm', hK', hq⟩
  dsimp only at hp hm' hK' hq ⊢
  refine SP_seq ?_
  refine SP_seq ?_
  refine SP_region ?_
  refine SPL_y (y_move rfl) rfl ?_
  refine SPL_ifn (y_geq rfl rfl) rfl ?_ ?_
  · intro h2_1
    refine SPL_nil ?_
    refine thenP_n ?_
    refine SP_cond_f rfl ?_
    refine SP_exit ?_
    refine thenP_exit ?_
    refine thenP_exit ?_
    refine inBlockP_hit ?_
    refine thenP_n ?_
    refine SP_seq ?_
    refine SP_region ?_
    refine SPL_y (y_assign rfl) rfl ?_
    refine SPL_nil ?_
    refine thenP_n ?_
    refine SP_ret ?_
    refine bodyP_ret (H' := [s0]) (Res1 rfl rfl) (by repeat (first | exact Part.nil _ | (apply Part.cons; (first | exact P0 | exact P1 | exact P2 | exact P3 | exact P4 | exact P5 | exact P6 | exact P7 | exact P8 | exact P9 | exact P10 | exact P11 | exact P12 | exact P13 | exact P14 | exact P15 | exact P16 | exact P17 | exact P18 | exact P19 | exact P20 | exact P21 | exact P22 | exact P23)) | (apply Part.flat; simp only [List.cons_append, List.nil_append]) | (apply Part.nilc))) ?_
    obtain rfl : p = 0 := by omega
    rw [hq]
    exact ⟨_, rfl, rfl, hm'⟩
  intro h2_1
  refine SPL_nil ?_
  refine thenP_n ?_
  refine SP_cond_t rfl ?_
  refine SP_skip ?_
  refine thenP_n ?_
  refine SP_seq ?_
  refine SP_block ?_
  refine SP_seq ?_
  obtain ⟨q, rfl⟩ : ∃ q, p = q + 1 := ⟨p - 1, by omega⟩
  have hql : q < l.length := by omega
  refine SP_region ?_
  refine SPL_y (y_move rfl) rfl ?_
  refine SPL_y (y_move rfl) rfl ?_
  refine SPL_y (y_move rfl) rfl ?_
  refine SPL_y (y_idx_s Tryz.underlying9 rfl rfl (by omega) (show l[(((q + 1 : Nat) : Int) - 1).toNat]? = some l[q] by rw [show (((q + 1 : Nat) : Int) - 1).toNat = q by omega]; exact List.getElem?_eq_getElem hql)) rfl ?_
  refine SPL_one rfl (SP1_call (pm_pop k K' s0 l[q] hm' hK') Tryz.call102 rfl rfl (by repeat (first | exact Part.nil _ | (apply Part.cons; (first | exact P0 | exact P1 | exact P2 | exact P3 | exact P4 | exact P5 | exact P6 | exact P7 | exact P8 | exact P9 | exact P10 | exact P11 | exact P12 | exact P13 | exact P14 | exact P15 | exact P16 | exact P17 | exact P18 | exact P19 | exact P20 | exact P21 | exact P22 | exact P23)) | (apply Part.flat; simp only [List.cons_append, List.nil_append]) | (apply Part.nilc))) ?_)
  rintro v post H' ⟨s1, rfl, rfl, hm1⟩ hH
  try simp only [List.cons_append, List.nil_append] at hH
  subst hH
  generalize hb : (popM K' l[q]).2.2 = b
  refine SPL_y (y_move rfl) rfl ?_
  refine SPL_y (y_ext rfl rfl) rfl ?_
  refine SPL_y (y_ext rfl rfl) rfl ?_
  refine SPL_y (y_assign rfl) rfl ?_
  refine SPL_y (y_assign rfl) rfl ?_
  refine SPL_nil ?_
  refine thenP_n ?_
  refine SP_seq ?_
  refine SP_region ?_
  refine SPL_y (y_move rfl) rfl ?_
  rcases b with _ | _
  · refine SPL_y (y_not_f rfl) rfl ?_
    refine SPL_nil ?_
    refine thenP_n ?_
    refine SP_cond_t rfl ?_
    refine SP_seq ?_
    refine SP_region ?_
    refine SPL_y (y_assign rfl) rfl ?_
    refine SPL_nil ?_
    refine thenP_n ?_
    refine SP_ret ?_
    refine inBlockP_ret (thenP_ret (thenP_ret (inBlockP_ret (thenP_ret (bodyP_ret (H' := [s1]) (Res1 rfl rfl) (by repeat (first | exact Part.nil _ | (apply Part.cons; (first | exact P0 | exact P1 | exact P2 | exact P3 | exact P4 | exact P5 | exact P6 | exact P7 | exact P8 | exact P9 | exact P10 | exact P11 | exact P12 | exact P13 | exact P14 | exact P15 | exact P16 | exact P17 | exact P18 | exact P19 | exact P20 | exact P21 | exact P22 | exact P23)) | (apply Part.flat; simp only [List.cons_append, List.nil_append]) | (apply Part.nilc))) ?_)))))
    rw [hq, popsM_step hql, if_neg (by simp [hb])]
    exact ⟨_, rfl, rfl, hm1⟩
  · refine SPL_y (y_not_t rfl) rfl ?_
    refine SPL_nil ?_
    refine thenP_n ?_
    refine SP_cond_f rfl ?_
    refine SP_skip ?_
    refine inBlockP_n ?_
    refine thenP_n ?_
    refine SP_region ?_
    refine SPL_y (y_move rfl) rfl ?_
    refine SPL_y (y_subE (c := ((q : Nat) : Int) - 1) rfl rfl (by omega) (by omega)) rfl ?_
    refine SPL_y (y_assign rfl) rfl ?_
    refine SPL_nil ?_
    refine thenP_n ?_
    exact Again.intro ((q, (popM K' l[q]).1, s1)) (⟨by dsimp only; omega, hm1, hK'.pop _, by dsimp only; rw [hq, popsM_step hql, if_pos hb]⟩) (by simp only []; omega) (by repeat (first | exact Sub.nil _ | refine Sub.cons rfl ?_)) (by repeat (first | exact Part.nil _ | (apply Part.cons; (first | exact P0 | exact P1 | exact P2 | exact P3 | exact P4 | exact P5 | exact P6 | exact P7 | exact P8 | exact P9 | exact P10 | exact P11 | exact P12 | exact P13 | exact P14 | exact P15 | exact P16 | exact P17 | exact P18 | exact P19 | exact P20 | exact P21 | exact P22 | exact P23)) | (apply Part.flat; simp only [List.cons_append, List.nil_append]) | (apply Part.nilc)))

theorem pm_swap (k : Nat) (K : Km) (s : Seg) (l o : List UInt8) (hm : isKm k K s) (hK : KB K) (hl : l.length ≤ 1000) (ho : o.length ≤ 1000) : Spec Tryz.prog 100 [.pointer (some ⟨k, 0, none⟩), S l, S o] [s] (Ret fun v H => ∃ s', v = .bool (swapM K l o).2 ∧ H = [s'] ∧ isKm k (swapM K l o).1 s') := by
  refine Spec_enter Tryz.func100 rfl Tryz.ntmps100 rfl ?_
  show SP _ _ _ _ _ [(0, _), (1, _), (2, _)] _
  refine SP_seq ?_
  refine SP_region ?_
  refine SPL_y (y_assign rfl) rfl ?_
  refine SPL_nil ?_
  refine thenP_n ?_
  refine SP_seq ?_
  refine SP_region ?_
  refine SPL_y (y_move rfl) rfl ?_
  refine SPL_y (y_move rfl) rfl ?_
  refine SPL_one rfl (SP1_call (pm_pops k K _ l hm hK hl) Tryz.call92 rfl rfl (by repeat (first | exact Part.nil _ | (apply Part.cons; (first | exact P0 | exact P1 | exact P2 | exact P3 | exact P4 | exact P5 | exact P6 | exact P7 | exact P8 | exact P9 | exact P10 | exact P11 | exact P12 | exact P13 | exact P14 | exact P15 | exact P16 | exact P17 | exact P18 | exact P19 | exact P20 | exact P21 | exact P22 | exact P23)) | (apply Part.flat; simp only [List.cons_append, List.nil_append]) | (apply Part.nilc))) ?_)
  rintro v post H' ⟨s1, rfl, rfl, hm1⟩ hH
  try simp only [List.cons_append, List.nil_append] at hH
  subst hH
  have hcs := popsM_cs K l
  have hsl := popsM_st K l
  have hK1 := hK.pops l
  obtain ⟨⟨K1, b1⟩, hP⟩ : ∃ x, popsM K l = x := ⟨_, rfl⟩
  rw [hP] at hcs hsl hm1 hK1 ⊢
  dsimp only at hcs hsl hm1 hK1 ⊢
  refine SPL_y (y_assign rfl) rfl ?_
  refine SPL_nil ?_
  refine thenP_n ?_
  refine SP_seq ?_
  have hz1 := hK1.st
  obtain ⟨ta, tc, oa, oc, st, so, rfl, hst, hop⟩ := hm1
  refine SP_flat ?_
  simp only [List.cons_append, List.nil_append]
  refine SP_region ?_
  refine SPL_y (y_move rfl) rfl ?_
  refine SPL_y (y_move rfl) rfl ?_
  refine SPL_y (y_nil rfl) rfl ?_
  refine SPL_y (y_fa fld_174_0 rfl) rfl ?_
  refine SPL_y (y_load Tryz.isAgg144 rfl (by repeat (first | exact Cell.head rfl | apply Cell.tail))) rfl ?_
  refine SPL_y (y_move rfl) rfl ?_
  refine SPL_one rfl (SP1_append el_144 (.inr Tryz.underlying9) rfl rfl hst (by first | exact P0 | exact P1 | exact P2 | exact P3 | exact P4 | exact P5 | exact P6 | exact P7 | exact P8 | exact P9 | exact P10 | exact P11 | exact P12 | exact P13 | exact P14 | exact P15 | exact P16 | exact P17 | exact P18 | exact P19 | exact P20 | exact P21 | exact P22 | exact P23) Src.str (bytesV_one _) (by omega) rfl ?_)
  intro a1 c1 s2 h1
  refine SPL_y (y_nil rfl) rfl ?_
  refine SPL_y (y_fa fld_174_0 rfl) rfl ?_
  refine SPL_one rfl (SP1_store Tryz.sizeOf144 rfl rfl rfl (by first | exact U0 | exact U1 | exact U2 | exact U3 | exact U4 | exact U5 | exact U6 | exact U7 | exact U8 | exact U9 | exact U10 | exact U11 | exact U12 | exact U13 | exact U14 | exact U15 | exact U16 | exact U17 | exact U18 | exact U19 | exact U20 | exact U21 | exact U22 | exact U23) (by rfl) ?_)
  refine SPL_nil ?_
  refine thenP_n ?_
  refine SP_seq ?_
  refine SP_region ?_
  refine SPL_y (y_move rfl) rfl ?_
  refine SPL_y (y_assign rfl) rfl ?_
  refine SPL_nil ?_
  refine thenP_n ?_
  refine SP_ret ?_
  refine bodyP_ret (H' := [List.flatten [blk k 174 [.slice a1 (K1.st.length + o.length) c1, .slice oa K1.cs.length oc], s2, so]]) (Res1 rfl rfl) (by repeat (first | exact Part.nil _ | (apply Part.cons; (first | exact P0 | exact P1 | exact P2 | exact P3 | exact P4 | exact P5 | exact P6 | exact P7 | exact P8 | exact P9 | exact P10 | exact P11 | exact P12 | exact P13 | exact P14 | exact P15 | exact P16 | exact P17 | exact P18 | exact P19 | exact P20 | exact P21 | exact P22 | exact P23)) | (apply Part.flat; simp only [List.cons_append, List.nil_append]) | (apply Part.nilc))) ?_
  have e : swapM K l o = ({ K1 with st := K1.st ++ o }, b1) := by unfold swapM; rw [hP]
  rw [e]
  exact ⟨_, rfl, rfl, a1, c1, oa, oc, s2, so, by simp, by simpa [bytesV_append] using h1, hop⟩

theorem deadM_eq {K : Km} (h : 0 < K.cs.length) : deadM K = ⟨K.st.take K.top.height, K.cs.set (K.cs.length - 1) { K.top with dead := true }⟩ := rfl
theorem KB.dead {K : Km} (h : KB K) : KB (deadM K) := by
  have h1 := h.pos
  have h2 := h.ht
  have h3 := h.st
  refine ⟨?_, ?_, ?_, ?_⟩
  · show (K.st.take _).length ≤ _; rw [List.length_take]; omega
  · show (K.cs.set _ _).length ≤ _; rw [List.length_set]; exact h.cs
  · show 0 < (K.cs.set _ _).length; rw [List.length_set]; exact h1
  · have : (deadM K).top = { K.top with dead := true } := by
      show (K.cs.set (K.cs.length - 1) { K.top with dead := true }).getD ((K.cs.set (K.cs.length - 1) { K.top with dead := true }).length - 1) Ctl.nil = _
      rw [List.length_set, List.getD_eq_getElem?_getD, List.getElem?_set_self (by omega)]; rfl
    rw [this]
    show K.top.height ≤ (K.st.take _).length
    rw [List.length_take]; omega

theorem pm_dead (k : Nat) (K : Km) (s : Seg) (hm : isKm k K s) (hK : KB K) : Spec Tryz.prog 101 [.pointer (some ⟨k, 0, none⟩)] [s] (Ret fun v H => ∃ s', v = .tuple #[] ∧ H = [s'] ∧ isKm k (deadM K) s') := by
  have hp := hK.pos
  have hz1 := hK.st
  have hz2 := hK.cs
  obtain ⟨ta, tc, oa, oc, st, so, rfl, hst, hop⟩ := hm
  refine Spec_flat ?_
  simp only [List.cons_append, List.nil_append]
  refine Spec_enter Tryz.func101 rfl Tryz.ntmps101 rfl ?_
  show SP _ _ _ _ _ [(0, _)] _
  refine SP_seq ?_
  obtain ⟨bo, spo, rfl, hoc, hspo, rfl⟩ := hop.row (by omega)
  obtain ⟨c, hc⟩ : ∃ c, K.cs[K.cs.length - 1] = c := ⟨_, rfl⟩
  have htop : K.top = c := by rw [topM_eq hK.pos, hc]
  have hht := hK.ht
  rw [htop] at hht
  have hcl : K.cs.length - 1 < K.cs.length := by omega
  refine SP_draw 999 [(0, 0), (1, 0), (2, 0), (4, 0), (5, 0), (6, 0), (3, 1), (7, 1), (8, 0), (9, 0), (10, 0), (11, 0)] mixed (by kernel_rfl) (fun _ _ _ _ _ h => h) (Part.refl _) ?_
  refine SPO_p rfl (y_move rfl) rfl ?_
  refine SPO_p rfl (y_nil rfl) rfl ?_
  refine SPO_p rfl (y_fa fld_174_1 rfl) rfl ?_
  refine SPO_p rfl (y_move rfl) rfl ?_
  refine SPO_p rfl (y_nil rfl) rfl ?_
  refine SPO_p rfl (y_fa fld_174_1 rfl) rfl ?_
  refine SPO_h rfl (y_load Tryz.isAgg172 rfl (by repeat (first | exact Cell.head rfl | apply Cell.tail))) rfl ?_
  refine SPO_h rfl (y_load Tryz.isAgg172 rfl (by repeat (first | exact Cell.head rfl | apply Cell.tail))) rfl ?_
  refine SPO_p rfl (y_len_l Tryz.underlying172 rfl) rfl ?_
  refine SPO_p rfl (y_sub rfl rfl (by omega)) rfl ?_
  refine SPO_p rfl (y_ia Tryz.underlying172 Tryz.sizeOf171 rfl rfl (by omega)) rfl ?_
  refine SPO_p rfl (y_assign rfl) rfl ?_
  refine SPO_nil ?_
  refine thenP_n ?_
  refine SP_seq ?_
  refine SP_draw 12 [(0, 0), (1, 0), (2, 0), (3, 0), (5, 0), (6, 0), (7, 0), (4, 1), (8, 1), (9, 0), (10, 0), (11, 0), (12, 3)] mixed (by kernel_rfl) (fun _ _ _ _ _ h => h) (Part.refl _) ?_
  refine SPO_p rfl (y_move rfl) rfl ?_
  refine SPO_p rfl (y_move rfl) rfl ?_
  refine SPO_p rfl (y_nil rfl) rfl ?_
  refine SPO_p rfl (y_fa fld_174_0 rfl) rfl ?_
  refine SPO_p rfl (y_move rfl) rfl ?_
  refine SPO_p rfl (y_nil rfl) rfl ?_
  refine SPO_p rfl (y_fa fld_171_2 rfl) rfl ?_
  refine SPO_h rfl (y_load Tryz.isAgg144 rfl (by repeat (first | exact Cell.head rfl | apply Cell.tail))) rfl ?_
  refine SPO_h rfl (y_load Tryz.isAgg3 rfl (by repeat (first | exact flat_cellE ctlV_len (i := K.cs.length - 1) (q := 2) (by omega) hcl hc rfl | apply Cell.tail))) rfl ?_
  refine SPO_p rfl (y_cut hst Tryz.underlying144 Tryz.sizeOf5 rfl rfl (by have := hst.mle; omega)) rfl ?_
  refine SPO_p rfl (y_nil rfl) rfl ?_
  refine SPO_p rfl (y_fa fld_174_0 rfl) rfl ?_
  refine SPO_z (k := 0) rfl rfl (SP1_store Tryz.sizeOf144 rfl rfl rfl (by first | exact U0 | exact U1 | exact U2 | exact U3 | exact U4 | exact U5 | exact U6 | exact U7 | exact U8 | exact U9 | exact U10 | exact U11 | exact U12 | exact U13 | exact U14 | exact U15 | exact U16 | exact U17 | exact U18 | exact U19 | exact U20 | exact U21 | exact U22 | exact U23) (by rfl) ?_)
  refine SPO_nil ?_
  refine thenP_n ?_
  refine SP_region ?_
  refine SPL_y (y_move rfl) rfl ?_
  refine SPL_y (y_nil rfl) rfl ?_
  refine SPL_y (y_fa fld_171_4 rfl) rfl ?_
  refine SPL_one rfl (SP1_store Tryz.sizeOf4 rfl rfl rfl (by first | exact U0 | exact U1 | exact U2 | exact U3 | exact U4 | exact U5 | exact U6 | exact U7 | exact U8 | exact U9 | exact U10 | exact U11 | exact U12 | exact U13 | exact U14 | exact U15 | exact U16 | exact U17 | exact U18 | exact U19 | exact U20 | exact U21 | exact U22 | exact U23) (flat_ble ctlV_len (i := K.cs.length - 1) (by omega) hcl (by decide)) ?_)
  rw [flat_upd ctlV_len (i := K.cs.length - 1) (x := { c with dead := true }) (by omega) hcl (by decide) (by rw [hc]; rfl)]
  refine SPL_nil ?_
  refine bodyP_end (H' := [List.flatten [blk k 174 [.slice ta c.height tc, .slice (some ⟨bo, 0, none⟩) K.cs.length oc], st, blk bo 171 ((K.cs.set (K.cs.length - 1) { c with dead := true }).flatMap ctlV ++ spo)]]) (Res0 rfl) (by repeat (first | exact Part.nil _ | (apply Part.cons; (first | exact P0 | exact P1 | exact P2 | exact P3 | exact P4 | exact P5 | exact P6 | exact P7 | exact P8 | exact P9 | exact P10 | exact P11 | exact P12 | exact P13 | exact P14 | exact P15 | exact P16 | exact P17 | exact P18 | exact P19 | exact P20 | exact P21 | exact P22 | exact P23)) | (apply Part.flat; simp only [List.cons_append, List.nil_append]) | (apply Part.nilc))) ?_
  have hnl : (K.st.take c.height).length = c.height := by rw [List.length_take]; omega
  refine ⟨_, rfl, rfl, ?_⟩
  rw [deadM_eq hp, htop]
  refine ⟨ta, tc, some ⟨bo, 0, none⟩, oc, st, blk bo 171 ((K.cs.set (K.cs.length - 1) { c with dead := true }).flatMap ctlV ++ spo), ?_, ?_, ?_⟩
  · dsimp only; rw [hnl, List.length_set]
  · dsimp only; rw [hnl]
    have := hst.cut (j := c.height) (by omega)
    rwa [Nat.mul_one, bytesV_take] at this
  · dsimp only; rw [List.length_set]
    exact Arr.mk (by rw [flat_len ctlV_len, List.length_set]) hoc hspo

end Go.Sl
