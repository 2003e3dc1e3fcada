/- Walks: package runm, cutting and taking (made by program out of short notes) -/
import Derived.Test.Qxb6500572aGreatDoorWRmA
namespace Go.Sl
open Go Go.Wl Go.Proofs
set_option maxRecDepth 100000
set_option linter.unusedVariables false
set_option linter.unusedSimpArgs false
theorem wsrc {st a mid kp : List W} {sps : List Value} {o : Nat} (h : st = a ++ mid ++ kp) (ho : o = (a.length + mid.length) * 2) : ((st.flatMap wv ++ sps).drop o).take (kp.flatMap wv).length = kp.flatMap wv := by
  subst h ho
  have e : (a ++ mid ++ kp).flatMap wv ++ sps = (a ++ mid).flatMap wv ++ (kp.flatMap wv ++ sps) := by simp
  rw [e, show (a.length + mid.length) * 2 = ((a ++ mid).flatMap wv).length by rw [flat_len wv_len]; simp, List.drop_left, List.take_left]
theorem wdst {st a mid kp : List W} {sps : List Value} (h : st = a ++ mid ++ kp) : (st.flatMap wv ++ sps).take (a.length * 2) ++ kp.flatMap wv ++ (st.flatMap wv ++ sps).drop (a.length * 2 + kp.length * 2) = (a ++ kp).flatMap wv ++ (st.flatMap wv ++ sps).drop ((a.length + kp.length) * 2) := by
  rw [show a.length * 2 + kp.length * 2 = (a.length + kp.length) * 2 by omega]
  congr 1
  subst h
  have e : (a ++ mid ++ kp).flatMap wv ++ sps = a.flatMap wv ++ ((mid ++ kp).flatMap wv ++ sps) := by simp
  rw [e, show a.length * 2 = (a.flatMap wv).length by rw [flat_len wv_len], List.take_left, List.flatMap_append]

theorem rm_cutG (x : Nat) (pv rv kv : Value) (E : RE) (R : RS) (s : Seg) (hm : isR x pv rv kv E R s) (A mid kp : List W) (hst0 : R.st = A ++ mid ++ kp) (hkp : 0 < kp.length) (hz : R.st.length ≤ 1000000) : Spec Tryz.prog 141 [.pointer (some ⟨x, 0, none⟩), I A.length, I kp.length] [s] (Ret fun v H => ∃ s', v = .bool true ∧ H = [s'] ∧ isR x pv rv kv E { R with st := A ++ kp } s') := by
  have hsl : R.st.length = A.length + mid.length + kp.length := by rw [hst0]; simp; omega
  obtain ⟨sa, sc, ss, rfl, hst⟩ := hm
  refine Spec_flat ?_
  simp only [List.cons_append, List.nil_append, instR]
  obtain ⟨bs, sps, rfl, hsc, hsps, rfl⟩ := hst.row (by omega)
  refine Spec_enter Tryz.func141 rfl Tryz.ntmps141 rfl ?_
  show SP _ _ _ _ _ [(0, _), (1, _), (2, _)] _
  refine SP_seq ?_
  refine SP_region ?_
  refine SPL_y (y_assign rfl) rfl ?_
  refine SPL_nil ?_
  refine thenP_n ?_
  refine SP_seq ?_
  refine SP_seq ?_
  refine SP_region ?_
  refine SPL_y (y_move rfl) rfl ?_
  refine SPL_y (y_nil rfl) rfl ?_
  refine SPL_y (y_fa fld_119_3 rfl) rfl ?_
  refine SPL_y (y_load Tryz.isAgg35 rfl (by repeat (first | exact Cell.head rfl | apply Cell.tail))) rfl ?_
  refine SPL_y (y_len_l Tryz.underlying35 rfl) rfl ?_
  refine SPL_y (y_move rfl) rfl ?_
  refine SPL_y (y_move rfl) rfl ?_
  refine SPL_y (y_add rfl rfl (by omega)) rfl ?_
  refine SPL_y (y_lssNo rfl rfl (by omega)) rfl ?_
  refine SPL_nil ?_
  refine thenP_n ?_
  refine SP_cond_f rfl ?_
  refine SP_skip ?_
  refine thenP_n ?_
  refine SP_seq ?_
  refine SP_draw 18 [(0, 0), (1, 0), (2, 0), (4, 0), (6, 0), (7, 0), (8, 0), (10, 0), (11, 0), (12, 0), (15, 0), (3, 1), (5, 0), (9, 1), (13, 1), (14, 0), (16, 0), (17, 0), (18, 3)] mixed (by kernel_rfl) (fun _ _ _ _ _ h => h) (Part.refl _) ?_
  refine SPO_p rfl (y_move rfl) rfl ?_
  refine SPO_p rfl (y_nil rfl) rfl ?_
  refine SPO_p rfl (y_fa fld_119_3 rfl) rfl ?_
  refine SPO_p rfl (y_move rfl) rfl ?_
  refine SPO_p rfl (y_move rfl) rfl ?_
  refine SPO_p rfl (y_nil rfl) rfl ?_
  refine SPO_p rfl (y_fa fld_119_3 rfl) rfl ?_
  refine SPO_p rfl (y_move rfl) rfl ?_
  refine SPO_p rfl (y_nil rfl) rfl ?_
  refine SPO_p rfl (y_fa fld_119_3 rfl) rfl ?_
  refine SPO_p rfl (y_move rfl) rfl ?_
  refine SPO_h rfl (y_load Tryz.isAgg35 rfl (by repeat (first | exact Cell.head rfl | apply Cell.tail))) rfl ?_
  refine SPO_p rfl (y_from_lt Tryz.underlying35 Tryz.sizeOf110 rfl rfl (by omega)) rfl ?_
  refine SPO_h rfl (y_load Tryz.isAgg35 rfl (by repeat (first | exact Cell.head rfl | apply Cell.tail))) rfl ?_
  refine SPO_h rfl (y_load Tryz.isAgg35 rfl (by repeat (first | exact Cell.head rfl | apply Cell.tail))) rfl ?_
  refine SPO_p rfl (y_len_l Tryz.underlying35 rfl) rfl ?_
  refine SPO_p rfl (y_sub rfl rfl (by omega)) rfl ?_
  refine SPO_p rfl (y_from_lt Tryz.underlying35 Tryz.sizeOf110 rfl rfl (by omega)) rfl ?_
  refine SPO_z (k := 0) rfl rfl (SP1_copy el_35 rfl rfl (Src.slice (k := 2) (vs := kp.flatMap wv) (by rw [flat_len wv_len]; congr 1; omega) (by repeat (first | exact Cells.head (wsrc hst0 (by omega)) | apply Cells.tail))) (wv_one _) (by first | exact U0 | exact U1 | exact U2 | exact U3 | exact U4 | exact U5 | exact U6 | exact U7 | exact U8 | exact U9 | exact U10 | exact U11 | exact U12 | exact U13 | exact U14 | exact U15 | exact U16 | exact U17 | exact U18 | exact U19 | exact U20 | exact U21 | exact U22 | exact U23) (by rw [List.length_append, flat_len wv_len]; omega) (l' := (A ++ kp).flatMap wv ++ ((R.st.flatMap wv ++ sps).drop ((A.length + kp.length) * 2))) (by rw [show min (R.st.length - ((R.st.length : Int) - (kp.length : Int)).toNat) (R.st.length - ((A.length : Nat) : Int).toNat) * 2 = kp.length * 2 by omega, show 0 + ((A.length : Nat) : Int).toNat * 2 = A.length * 2 by omega, List.take_of_length_le (l := kp.flatMap wv) (by rw [flat_len wv_len]; omega), wdst hst0]) rfl ?_)
  refine SPO_nil ?_
  refine thenP_n ?_
  refine SP_seq ?_
  refine SP_region ?_
  refine SPL_y (y_move rfl) rfl ?_
  refine SPL_y (y_move rfl) rfl ?_
  refine SPL_y (y_nil rfl) rfl ?_
  refine SPL_y (y_fa fld_119_3 rfl) rfl ?_
  refine SPL_y (y_load Tryz.isAgg35 rfl (by repeat (first | exact Cell.head rfl | apply Cell.tail))) rfl ?_
  refine SPL_y (y_move rfl) rfl ?_
  refine SPL_y (y_move rfl) rfl ?_
  refine SPL_y (y_add rfl rfl (by omega)) rfl ?_
  refine SPL_y (y_cut hst Tryz.underlying35 Tryz.sizeOf110 rfl rfl (by omega)) rfl ?_
  refine SPL_y (y_nil rfl) rfl ?_
  refine SPL_y (y_fa fld_119_3 rfl) rfl ?_
  refine SPL_one rfl (SP1_store Tryz.sizeOf35 rfl rfl rfl (by first | exact U0 | exact U1 | exact U2 | exact U3 | exact U4 | exact U5 | exact U6 | exact U7 | exact U8 | exact U9 | exact U10 | exact U11 | exact U12 | exact U13 | exact U14 | exact U15 | exact U16 | exact U17 | exact U18 | exact U19 | exact U20 | exact U21 | exact U22 | exact U23) (by rfl) ?_)
  refine SPL_nil ?_
  refine thenP_n ?_
  refine SP_seq ?_
  refine SP_region ?_
  refine SPL_y (y_assign rfl) rfl ?_
  refine SPL_nil ?_
  refine thenP_n ?_
  refine SP_ret ?_
  refine bodyP_ret (H' := [List.flatten [blk x 119 (instR pv rv kv (.slice (some ⟨bs, 0, none⟩) (((A.length : Nat) : Int) + ((kp.length : Nat) : Int)).toNat sc) E { R with st := A ++ kp }), blk bs 110 ((A ++ kp).flatMap wv ++ ((R.st.flatMap wv ++ sps).drop ((A.length + kp.length) * 2)))]]) (Res1 rfl rfl) (by repeat (first | exact Part.nil _ | (apply Part.cons; (first | exact P0 | exact P1 | exact P2 | exact P3 | exact P4 | exact P5 | exact P6 | exact P7 | exact P8 | exact P9 | exact P10 | exact P11 | exact P12 | exact P13 | exact P14 | exact P15 | exact P16 | exact P17 | exact P18 | exact P19 | exact P20 | exact P21 | exact P22 | exact P23)) | (apply Part.flat; simp only [List.cons_append, List.nil_append]) | (apply Part.nilc))) ?_
  refine ⟨_, rfl, rfl, isR.intro (by simp; omega) ?_⟩
  rw [show (((A.length : Nat) : Int) + ((kp.length : Nat) : Int)).toNat = (A ++ kp).length by simp; omega]
  exact Arr.mk (flat_len wv_len _) (by simp; omega) (by rw [List.length_drop, List.length_append, flat_len wv_len, hsps]; simp; omega)

theorem rm_cut0 (x : Nat) (pv rv kv : Value) (E : RE) (R : RS) (s : Seg) (hm : isR x pv rv kv E R s) (A mid : List W) (hst0 : R.st = A ++ mid) (hz : R.st.length ≤ 1000000) : Spec Tryz.prog 141 [.pointer (some ⟨x, 0, none⟩), I A.length, I 0] [s] (Ret fun v H => ∃ s', v = .bool true ∧ H = [s'] ∧ isR x pv rv kv E { R with st := A } s') := by
  have hsl : R.st.length = A.length + mid.length := by rw [hst0]; simp
  obtain ⟨sa, sc, ss, rfl, hst⟩ := hm
  refine Spec_flat ?_
  simp only [List.cons_append, List.nil_append, instR]
  have hcap := hst.mle
  refine Spec_enter Tryz.func141 rfl Tryz.ntmps141 rfl ?_
  show SP _ _ _ _ _ [(0, _), (1, _), (2, _)] _
  refine SP_seq ?_
  refine SP_region ?_
  refine SPL_y (y_assign rfl) rfl ?_
  refine SPL_nil ?_
  refine thenP_n ?_
  refine SP_seq ?_
  refine SP_seq ?_
  refine SP_region ?_
  refine SPL_y (y_move rfl) rfl ?_
  refine SPL_y (y_nil rfl) rfl ?_
  refine SPL_y (y_fa fld_119_3 rfl) rfl ?_
  refine SPL_y (y_load Tryz.isAgg35 rfl (by repeat (first | exact Cell.head rfl | apply Cell.tail))) rfl ?_
  refine SPL_y (y_len_l Tryz.underlying35 rfl) rfl ?_
  refine SPL_y (y_move rfl) rfl ?_
  refine SPL_y (y_move rfl) rfl ?_
  refine SPL_y (y_add rfl rfl (by omega)) rfl ?_
  refine SPL_y (y_lssNo rfl rfl (by omega)) rfl ?_
  refine SPL_nil ?_
  refine thenP_n ?_
  refine SP_cond_f rfl ?_
  refine SP_skip ?_
  refine thenP_n ?_
  refine SP_seq ?_
  refine SP_draw 18 [(0, 0), (1, 0), (2, 0), (4, 0), (6, 0), (7, 0), (8, 0), (10, 0), (11, 0), (12, 0), (15, 0), (3, 1), (5, 0), (9, 1), (13, 1), (14, 0), (16, 0), (17, 0), (18, 3)] mixed (by kernel_rfl) (fun _ _ _ _ _ h => h) (Part.refl _) ?_
  refine SPO_p rfl (y_move rfl) rfl ?_
  refine SPO_p rfl (y_nil rfl) rfl ?_
  refine SPO_p rfl (y_fa fld_119_3 rfl) rfl ?_
  refine SPO_p rfl (y_move rfl) rfl ?_
  refine SPO_p rfl (y_move rfl) rfl ?_
  refine SPO_p rfl (y_nil rfl) rfl ?_
  refine SPO_p rfl (y_fa fld_119_3 rfl) rfl ?_
  refine SPO_p rfl (y_move rfl) rfl ?_
  refine SPO_p rfl (y_nil rfl) rfl ?_
  refine SPO_p rfl (y_fa fld_119_3 rfl) rfl ?_
  refine SPO_p rfl (y_move rfl) rfl ?_
  refine SPO_h rfl (y_load Tryz.isAgg35 rfl (by repeat (first | exact Cell.head rfl | apply Cell.tail))) rfl ?_
  refine SPO_p rfl (y_fromA hst Tryz.underlying35 Tryz.sizeOf110 rfl rfl (by omega) rfl) rfl ?_
  refine SPO_h rfl (y_load Tryz.isAgg35 rfl (by repeat (first | exact Cell.head rfl | apply Cell.tail))) rfl ?_
  refine SPO_h rfl (y_load Tryz.isAgg35 rfl (by repeat (first | exact Cell.head rfl | apply Cell.tail))) rfl ?_
  refine SPO_p rfl (y_len_l Tryz.underlying35 rfl) rfl ?_
  refine SPO_p rfl (y_sub rfl rfl (by omega)) rfl ?_
  refine SPO_p rfl (y_fromA hst Tryz.underlying35 Tryz.sizeOf110 rfl rfl (by omega) (v := .slice (if sc = ((R.st.length : Int) - 0).toNat then sa else sa.map fun q => ⟨q.block, q.off + ((R.st.length : Int) - 0).toNat * 2, none⟩) 0 (sc - ((R.st.length : Int) - 0).toNat)) (by rw [show R.st.length - ((R.st.length : Int) - 0).toNat = 0 by omega])) rfl ?_
  refine SPO_z (k := 0) rfl rfl (SP1_copy0 el_35 rfl rfl rfl ?_)
  refine SPO_nil ?_
  refine thenP_n ?_
  refine SP_seq ?_
  refine SP_region ?_
  refine SPL_y (y_move rfl) rfl ?_
  refine SPL_y (y_move rfl) rfl ?_
  refine SPL_y (y_nil rfl) rfl ?_
  refine SPL_y (y_fa fld_119_3 rfl) rfl ?_
  refine SPL_y (y_load Tryz.isAgg35 rfl (by repeat (first | exact Cell.head rfl | apply Cell.tail))) rfl ?_
  refine SPL_y (y_move rfl) rfl ?_
  refine SPL_y (y_move rfl) rfl ?_
  refine SPL_y (y_add rfl rfl (by omega)) rfl ?_
  refine SPL_y (y_cut hst Tryz.underlying35 Tryz.sizeOf110 rfl rfl (by omega)) rfl ?_
  refine SPL_y (y_nil rfl) rfl ?_
  refine SPL_y (y_fa fld_119_3 rfl) rfl ?_
  refine SPL_one rfl (SP1_store Tryz.sizeOf35 rfl rfl rfl (by first | exact U0 | exact U1 | exact U2 | exact U3 | exact U4 | exact U5 | exact U6 | exact U7 | exact U8 | exact U9 | exact U10 | exact U11 | exact U12 | exact U13 | exact U14 | exact U15 | exact U16 | exact U17 | exact U18 | exact U19 | exact U20 | exact U21 | exact U22 | exact U23) (by rfl) ?_)
  refine SPL_nil ?_
  refine thenP_n ?_
  refine SP_seq ?_
  refine SP_region ?_
  refine SPL_y (y_assign rfl) rfl ?_
  refine SPL_nil ?_
  refine thenP_n ?_
  refine SP_ret ?_
  refine bodyP_ret (H' := [List.flatten [blk x 119 (instR pv rv kv (.slice sa (((A.length : Nat) : Int) + 0).toNat sc) E { R with st := A }), ss]]) (Res1 rfl rfl) (by repeat (first | exact Part.nil _ | (apply Part.cons; (first | exact P0 | exact P1 | exact P2 | exact P3 | exact P4 | exact P5 | exact P6 | exact P7 | exact P8 | exact P9 | exact P10 | exact P11 | exact P12 | exact P13 | exact P14 | exact P15 | exact P16 | exact P17 | exact P18 | exact P19 | exact P20 | exact P21 | exact P22 | exact P23)) | (apply Part.flat; simp only [List.cons_append, List.nil_append]) | (apply Part.nilc))) ?_
  refine ⟨_, rfl, rfl, isR.intro (by dsimp only; omega) ?_⟩
  have := hst.cut (j := (((A.length : Nat) : Int) + 0).toNat) (by omega)
  rw [flat_take wv_len (by omega)] at this
  have e : R.st.take (((A.length : Nat) : Int) + 0).toNat = A := by rw [show (((A.length : Nat) : Int) + 0).toNat = A.length by omega, hst0, List.take_left]
  rw [e] at this
  exact this

theorem rm_cut (x : Nat) (pv rv kv : Value) (E : RE) (R : RS) (s : Seg) (hm : isR x pv rv kv E R s) (A mid kp : List W) (hst0 : R.st = A ++ mid ++ kp) (hz : R.st.length ≤ 1000000) : Spec Tryz.prog 141 [.pointer (some ⟨x, 0, none⟩), I A.length, I kp.length] [s] (Ret fun v H => ∃ s', v = .bool true ∧ H = [s'] ∧ isR x pv rv kv E { R with st := A ++ kp } s') := by
  by_cases h : 0 < kp.length
  · exact rm_cutG x pv rv kv E R s hm A mid kp hst0 h hz
  · obtain rfl : kp = [] := List.length_eq_zero_iff.1 (by omega)
    rw [List.append_nil] at hst0 ⊢
    exact rm_cut0 x pv rv kv E R s hm A mid hst0 hz

theorem rm_take0 (x : Nat) (pv rv kv : Value) (E : RE) (R : RS) (s : Seg) (hm : isR x pv rv kv E R s) (A args : List W) (hst0 : R.st = A ++ args) (types : List UInt8) (ht : args.map W.t = types) (h0 : args.length = 0) (hz : R.st.length ≤ 1000000) : Spec Tryz.prog 139 [.pointer (some ⟨x, 0, none⟩), S types] [s] (Ret fun v H => ∃ s' ga gc sg, v = .tuple #[.slice ga args.length gc, .bool true] ∧ H = [s', sg] ∧ isR x pv rv kv E { R with st := A } s' ∧ Arr 110 2 ga args.length gc (args.flatMap wv) sg) := by
  have hsl : R.st.length = A.length + args.length := by rw [hst0]; simp
  have htl : types.length = args.length := by rw [← ht]; simp
  obtain ⟨sa, sc, ss, rfl, hst⟩ := hm
  refine Spec_flat ?_
  simp only [List.cons_append, List.nil_append, instR]
  have hcap := hst.mle
  refine Spec_enter Tryz.func139 rfl Tryz.ntmps139 rfl ?_
  show SP _ _ _ _ _ [(0, _), (1, _)] _
  refine SP_seq ?_
  refine SP_region ?_
  refine SPL_y (y_assign rfl) rfl ?_
  refine SPL_y (y_assign rfl) rfl ?_
  refine SPL_nil ?_
  refine thenP_n ?_
  refine SP_seq ?_
  refine SP_region ?_
  refine SPL_y (y_move rfl) rfl ?_
  refine SPL_y (y_nil rfl) rfl ?_
  refine SPL_y (y_fa fld_119_3 rfl) rfl ?_
  refine SPL_y (y_load Tryz.isAgg35 rfl (by repeat (first | exact Cell.head rfl | apply Cell.tail))) rfl ?_
  refine SPL_y (y_len_l Tryz.underlying35 rfl) rfl ?_
  refine SPL_y (y_move rfl) rfl ?_
  refine SPL_y (y_len_s Tryz.underlying9 rfl) rfl ?_
  refine SPL_y (y_subE (c := ((A.length : Nat) : Int)) rfl rfl (by omega) (by omega)) rfl ?_
  refine SPL_y (y_assign rfl) rfl ?_
  refine SPL_nil ?_
  refine thenP_n ?_
  refine SP_seq ?_
  refine SP_seq ?_
  refine SP_region ?_
  refine SPL_y (y_move rfl) rfl ?_
  refine SPL_y (y_lssNo rfl rfl (by omega)) rfl ?_
  refine SPL_nil ?_
  refine thenP_n ?_
  refine SP_cond_f rfl ?_
  refine SP_skip ?_
  refine thenP_n ?_
  refine SP_seq ?_
  refine SP_region ?_
  refine SPL_y (y_move rfl) rfl ?_
  refine SPL_y (y_len_s Tryz.underlying9 rfl) rfl ?_
  refine SPL_one rfl (SP1_make (m := args.length) el_35 (by rw [← htl]; rfl) (by omega) rfl ?_)
  intro bg
  refine SPL_y (y_assign rfl) rfl ?_
  refine SPL_nil ?_
  refine thenP_n ?_
  refine SP_seq ?_
  refine SP_region ?_
  refine SPL_y (y_move rfl) rfl ?_
  refine SPL_y (y_move rfl) rfl ?_
  refine SPL_y (y_nil rfl) rfl ?_
  refine SPL_y (y_fa fld_119_3 rfl) rfl ?_
  refine SPL_y (y_load Tryz.isAgg35 rfl (by repeat (first | exact Cell.head rfl | apply Cell.tail))) rfl ?_
  refine SPL_y (y_move rfl) rfl ?_
  refine SPL_y (y_fromA hst Tryz.underlying35 Tryz.sizeOf110 rfl rfl (by omega) (v := .slice (if sc = ((A.length : Nat) : Int).toNat then sa else sa.map fun q => ⟨q.block, q.off + ((A.length : Nat) : Int).toNat * 2, none⟩) 0 (sc - ((A.length : Nat) : Int).toNat)) (by rw [show R.st.length - ((A.length : Nat) : Int).toNat = 0 by omega])) rfl ?_
  refine SPL_one rfl (SP1_copy0 el_35 rfl rfl rfl ?_)
  refine SPL_nil ?_
  refine thenP_n ?_
  refine SP_seq ?_
  refine SP_seq ?_
  obtain rfl : args = [] := List.length_eq_zero_iff.1 h0
  simp only [List.length_nil, List.replicate_zero, List.flatten_nil]
  refine SP_region ?_
  refine SPL_y (y_assign rfl) rfl ?_
  refine SPL_nil ?_
  refine thenP_n ?_
  refine SP_block ?_
  refine SP_loop (G := Nat) (fun g => types.length - g) (fun g => [(0, .pointer (some ⟨x, 0, none⟩)), (1, S types), (6, I A.length), (7, .slice (some ⟨bg, 0, none⟩) 0 0), (8, I g)]) (fun g => [blk x 119 (instR pv rv kv (.slice sa R.st.length sc) E R), ss, blk bg 110 []]) (fun g => g ≤ types.length) (0) (Nat.zero_le _) (by repeat (first | exact Sub.nil _ | refine Sub.cons rfl ?_)) (by repeat (first | exact Part.nil _ | (apply Part.cons; (first | exact P0 | exact P1 | exact P2 | exact P3 | exact P4 | exact P5 | exact P6 | exact P7 | exact P8 | exact P9 | exact P10 | exact P11 | exact P12 | exact P13 | exact P14 | exact P15 | exact P16 | exact P17 | exact P18 | exact P19 | exact P20 | exact P21 | exact P22 | exact P23)) | (apply Part.flat; simp only [List.cons_append, List.nil_append]) | (apply Part.nilc))) ?_
  intro j hj
  refine SP_seq ?_
  refine SP_seq ?_
  refine SP_region ?_
  refine SPL_y (y_move rfl) rfl ?_
  refine SPL_y (y_move rfl) rfl ?_
  refine SPL_y (y_len_s Tryz.underlying9 rfl) rfl ?_
  refine SPL_if (y_lss rfl rfl) rfl ?_ ?_
  · intro h7_3
    omega
  intro h7_3
  refine SPL_nil ?_
  refine thenP_n ?_
  refine SP_cond_f rfl ?_
  refine SP_exit ?_
  refine thenP_exit ?_
  refine thenP_exit ?_
  refine inBlockP_hit ?_
  refine thenP_n ?_
  refine SP_seq ?_
  refine SP_region ?_
  refine SPL_y (y_move rfl) rfl ?_
  refine SPL_y (y_move rfl) rfl ?_
  refine SPL_y (y_nil rfl) rfl ?_
  refine SPL_y (y_fa fld_119_3 rfl) rfl ?_
  refine SPL_y (y_load Tryz.isAgg35 rfl (by repeat (first | exact Cell.head rfl | apply Cell.tail))) rfl ?_
  refine SPL_y (y_move rfl) rfl ?_
  refine SPL_y (y_cut hst Tryz.underlying35 Tryz.sizeOf110 rfl rfl (by omega)) rfl ?_
  refine SPL_y (y_nil rfl) rfl ?_
  refine SPL_y (y_fa fld_119_3 rfl) rfl ?_
  refine SPL_one rfl (SP1_store Tryz.sizeOf35 rfl rfl rfl (by first | exact U0 | exact U1 | exact U2 | exact U3 | exact U4 | exact U5 | exact U6 | exact U7 | exact U8 | exact U9 | exact U10 | exact U11 | exact U12 | exact U13 | exact U14 | exact U15 | exact U16 | exact U17 | exact U18 | exact U19 | exact U20 | exact U21 | exact U22 | exact U23) (by rfl) ?_)
  refine SPL_nil ?_
  refine thenP_n ?_
  refine SP_seq ?_
  refine SP_region ?_
  refine SPL_y (y_move rfl) rfl ?_
  refine SPL_y (y_assign rfl) rfl ?_
  refine SPL_y (y_assign rfl) rfl ?_
  refine SPL_nil ?_
  refine thenP_n ?_
  refine SP_ret ?_
  refine bodyP_ret (H' := [List.flatten [blk x 119 (instR pv rv kv (.slice sa ((A.length : Nat) : Int).toNat sc) E { R with st := A }), ss], blk bg 110 []]) (Res2 rfl rfl rfl) (by repeat (first | exact Part.nil _ | (apply Part.cons; (first | exact P0 | exact P1 | exact P2 | exact P3 | exact P4 | exact P5 | exact P6 | exact P7 | exact P8 | exact P9 | exact P10 | exact P11 | exact P12 | exact P13 | exact P14 | exact P15 | exact P16 | exact P17 | exact P18 | exact P19 | exact P20 | exact P21 | exact P22 | exact P23)) | (apply Part.flat; simp only [List.cons_append, List.nil_append]) | (apply Part.nilc))) ?_
  refine ⟨_, some ⟨bg, 0, none⟩, 0, blk bg 110 [], rfl, rfl, isR.intro (by dsimp only; omega) ?_, Arr.full rfl⟩
  have := hst.cut (j := ((A.length : Nat) : Int).toNat) (by omega)
  rw [flat_take wv_len (by omega)] at this
  have e : R.st.take ((A.length : Nat) : Int).toNat = A := by rw [Int.toNat_natCast, hst0, List.take_left]
  rw [e] at this
  exact this

theorem rep_len (k : Nat) (a b : Value) : (List.replicate k [a, b]).flatten.length = k * 2 := by
  induction k with
  | zero => rfl
  | succ n ih => rw [List.replicate_succ, List.flatten_cons, List.length_append, ih]; simp; omega

theorem rm_takeG (x : Nat) (pv rv kv : Value) (E : RE) (R : RS) (s : Seg) (hm : isR x pv rv kv E R s) (A args : List W) (hst0 : R.st = A ++ args) (types : List UInt8) (ht : args.map W.t = types) (h0 : 0 < args.length) (hz : R.st.length ≤ 1000000) : Spec Tryz.prog 139 [.pointer (some ⟨x, 0, none⟩), S types] [s] (Ret fun v H => ∃ s' ga gc sg, v = .tuple #[.slice ga args.length gc, .bool true] ∧ H = [s', sg] ∧ isR x pv rv kv E { R with st := A } s' ∧ Arr 110 2 ga args.length gc (args.flatMap wv) sg) := by
  have hsl : R.st.length = A.length + args.length := by rw [hst0]; simp
  have htl : types.length = args.length := by rw [← ht]; simp
  obtain ⟨sa, sc, ss, rfl, hst⟩ := hm
  refine Spec_flat ?_
  simp only [List.cons_append, List.nil_append, instR]
  have hcap := hst.mle
  obtain ⟨bs, sps, rfl, hsc, hsps, rfl⟩ := hst.row (by omega)
  refine Spec_enter Tryz.func139 rfl Tryz.ntmps139 rfl ?_
  show SP _ _ _ _ _ [(0, _), (1, _)] _
  refine SP_seq ?_
  refine SP_region ?_
  refine SPL_y (y_assign rfl) rfl ?_
  refine SPL_y (y_assign rfl) rfl ?_
  refine SPL_nil ?_
  refine thenP_n ?_
  refine SP_seq ?_
  refine SP_region ?_
  refine SPL_y (y_move rfl) rfl ?_
  refine SPL_y (y_nil rfl) rfl ?_
  refine SPL_y (y_fa fld_119_3 rfl) rfl ?_
  refine SPL_y (y_load Tryz.isAgg35 rfl (by repeat (first | exact Cell.head rfl | apply Cell.tail))) rfl ?_
  refine SPL_y (y_len_l Tryz.underlying35 rfl) rfl ?_
  refine SPL_y (y_move rfl) rfl ?_
  refine SPL_y (y_len_s Tryz.underlying9 rfl) rfl ?_
  refine SPL_y (y_subE (c := ((A.length : Nat) : Int)) rfl rfl (by omega) (by omega)) rfl ?_
  refine SPL_y (y_assign rfl) rfl ?_
  refine SPL_nil ?_
  refine thenP_n ?_
  refine SP_seq ?_
  refine SP_seq ?_
  refine SP_region ?_
  refine SPL_y (y_move rfl) rfl ?_
  refine SPL_y (y_lssNo rfl rfl (by omega)) rfl ?_
  refine SPL_nil ?_
  refine thenP_n ?_
  refine SP_cond_f rfl ?_
  refine SP_skip ?_
  refine thenP_n ?_
  refine SP_seq ?_
  refine SP_region ?_
  refine SPL_y (y_move rfl) rfl ?_
  refine SPL_y (y_len_s Tryz.underlying9 rfl) rfl ?_
  refine SPL_one rfl (SP1_make (m := args.length) el_35 (by rw [← htl]; rfl) (by omega) rfl ?_)
  intro bg
  refine SPL_y (y_assign rfl) rfl ?_
  refine SPL_nil ?_
  refine thenP_n ?_
  refine SP_seq ?_
  refine SP_region ?_
  refine SPL_y (y_move rfl) rfl ?_
  refine SPL_y (y_move rfl) rfl ?_
  refine SPL_y (y_nil rfl) rfl ?_
  refine SPL_y (y_fa fld_119_3 rfl) rfl ?_
  refine SPL_y (y_load Tryz.isAgg35 rfl (by repeat (first | exact Cell.head rfl | apply Cell.tail))) rfl ?_
  refine SPL_y (y_move rfl) rfl ?_
  refine SPL_y (y_from_lt Tryz.underlying35 Tryz.sizeOf110 rfl rfl (by omega)) rfl ?_
  refine SPL_one rfl (SP1_copy el_35 rfl rfl (Src.slice (k := 2) (vs := args.flatMap wv) (by rw [flat_len wv_len]; congr 1; omega) (by repeat (first | exact Cells.head (wsrc (a := A) (mid := []) (by rw [List.append_nil]; exact hst0) (by simp)) | apply Cells.tail))) (wv_one _) (by first | exact U0 | exact U1 | exact U2 | exact U3 | exact U4 | exact U5 | exact U6 | exact U7 | exact U8 | exact U9 | exact U10 | exact U11 | exact U12 | exact U13 | exact U14 | exact U15 | exact U16 | exact U17 | exact U18 | exact U19 | exact U20 | exact U21 | exact U22 | exact U23) (by rw [rep_len]; omega) (l' := args.flatMap wv ++ []) (by rw [show min (R.st.length - ((A.length : Nat) : Int).toNat) args.length * 2 = args.length * 2 by omega, List.take_zero, List.take_of_length_le (l := args.flatMap wv) (by rw [flat_len wv_len]; omega), List.drop_eq_nil_of_le (by rw [rep_len]; omega)]; simp) rfl ?_)
  refine SPL_nil ?_
  refine thenP_n ?_
  refine SP_seq ?_
  refine SP_seq ?_
  refine SP_region ?_
  refine SPL_y (y_assign rfl) rfl ?_
  refine SPL_nil ?_
  refine thenP_n ?_
  refine SP_block ?_
  refine SP_loop (G := Nat) (fun g => types.length - g) (fun g => [(0, .pointer (some ⟨x, 0, none⟩)), (1, S types), (6, I A.length), (7, .slice (some ⟨bg, 0, none⟩) args.length args.length), (8, I g)]) (fun g => [blk x 119 (instR pv rv kv (.slice (some ⟨bs, 0, none⟩) R.st.length sc) E R), blk bs 110 (R.st.flatMap wv ++ sps), blk bg 110 (args.flatMap wv ++ [])]) (fun g => g ≤ types.length) (0) (Nat.zero_le _) (by repeat (first | exact Sub.nil _ | refine Sub.cons rfl ?_)) (by repeat (first | exact Part.nil _ | (apply Part.cons; (first | exact P0 | exact P1 | exact P2 | exact P3 | exact P4 | exact P5 | exact P6 | exact P7 | exact P8 | exact P9 | exact P10 | exact P11 | exact P12 | exact P13 | exact P14 | exact P15 | exact P16 | exact P17 | exact P18 | exact P19 | exact P20 | exact P21 | exact P22 | exact P23)) | (apply Part.flat; simp only [List.cons_append, List.nil_append]) | (apply Part.nilc))) ?_
  intro j hj
  refine SP_seq ?_
  refine SP_seq ?_
  refine SP_region ?_
  refine SPL_y (y_move rfl) rfl ?_
  refine SPL_y (y_move rfl) rfl ?_
  refine SPL_y (y_len_s Tryz.underlying9 rfl) rfl ?_
  refine SPL_if (y_lss rfl rfl) rfl ?_ ?_
  · intro h7_3
    refine SPL_nil ?_
    refine thenP_n ?_
    refine SP_cond_t rfl ?_
    refine SP_skip ?_
    refine thenP_n ?_
    refine SP_seq ?_
    refine SP_block ?_
    refine SP_seq ?_
    have hja : j < args.length := by omega
    have hjt : j < types.length := by omega
    have hty : args[j].t = types[j] := by subst ht; simp
    refine SP_draw 999 [(0, 0), (1, 0), (2, 0), (3, 0), (5, 0), (6, 0), (7, 0), (4, 1), (8, 0)] mixed (by kernel_rfl) (fun _ _ _ _ _ h => h) (Part.refl _) ?_
    refine SPO_p rfl (y_move rfl) rfl ?_
    refine SPO_p rfl (y_move rfl) rfl ?_
    refine SPO_p rfl (y_ia Tryz.underlying35 Tryz.sizeOf110 rfl rfl (by omega)) rfl ?_
    refine SPO_p rfl (y_fa fld_110_0 rfl) rfl ?_
    refine SPO_p rfl (y_move rfl) rfl ?_
    refine SPO_p rfl (y_move rfl) rfl ?_
    refine SPO_p rfl (y_idx_s Tryz.underlying9 rfl rfl (by omega) (show types[((j : Nat) : Int).toNat]? = some types[j] by rw [Int.toNat_natCast]; exact List.getElem?_eq_getElem hjt)) rfl ?_
    refine SPO_h rfl (y_load Tryz.isAgg5 rfl (by repeat (first | exact flat_cell wv_len (i := j) (q := 0) rfl hja rfl | apply Cell.tail))) rfl ?_
    refine SPO_p rfl (y_neqNo rfl rfl (fun h => h (by rw [hty]))) rfl ?_
    refine SPO_nil ?_
    refine thenP_n ?_
    refine SP_cond_f rfl ?_
    refine SP_skip ?_
    refine inBlockP_n ?_
    refine thenP_n ?_
    refine SP_region ?_
    refine SPL_y (y_move rfl) rfl ?_
    refine SPL_y (y_add rfl rfl (by omega)) rfl ?_
    refine SPL_y (y_assign rfl) rfl ?_
    refine SPL_nil ?_
    refine thenP_n ?_
    exact Again.intro (j + 1) (by omega) (by omega) (by repeat (first | exact Sub.nil _ | refine Sub.cons rfl ?_)) (by repeat (first | exact Part.nil _ | (apply Part.cons; (first | exact P0 | exact P1 | exact P2 | exact P3 | exact P4 | exact P5 | exact P6 | exact P7 | exact P8 | exact P9 | exact P10 | exact P11 | exact P12 | exact P13 | exact P14 | exact P15 | exact P16 | exact P17 | exact P18 | exact P19 | exact P20 | exact P21 | exact P22 | exact P23)) | (apply Part.flat; simp only [List.cons_append, List.nil_append]) | (apply Part.nilc)))
  intro h7_3
  refine SPL_nil ?_
  refine thenP_n ?_
  refine SP_cond_f rfl ?_
  refine SP_exit ?_
  refine thenP_exit ?_
  refine thenP_exit ?_
  refine inBlockP_hit ?_
  refine thenP_n ?_
  refine SP_seq ?_
  refine SP_region ?_
  refine SPL_y (y_move rfl) rfl ?_
  refine SPL_y (y_move rfl) rfl ?_
  refine SPL_y (y_nil rfl) rfl ?_
  refine SPL_y (y_fa fld_119_3 rfl) rfl ?_
  refine SPL_y (y_load Tryz.isAgg35 rfl (by repeat (first | exact Cell.head rfl | apply Cell.tail))) rfl ?_
  refine SPL_y (y_move rfl) rfl ?_
  refine SPL_y (y_cut hst Tryz.underlying35 Tryz.sizeOf110 rfl rfl (by omega)) rfl ?_
  refine SPL_y (y_nil rfl) rfl ?_
  refine SPL_y (y_fa fld_119_3 rfl) rfl ?_
  refine SPL_one rfl (SP1_store Tryz.sizeOf35 rfl rfl rfl (by first | exact U0 | exact U1 | exact U2 | exact U3 | exact U4 | exact U5 | exact U6 | exact U7 | exact U8 | exact U9 | exact U10 | exact U11 | exact U12 | exact U13 | exact U14 | exact U15 | exact U16 | exact U17 | exact U18 | exact U19 | exact U20 | exact U21 | exact U22 | exact U23) (by rfl) ?_)
  refine SPL_nil ?_
  refine thenP_n ?_
  refine SP_seq ?_
  refine SP_region ?_
  refine SPL_y (y_move rfl) rfl ?_
  refine SPL_y (y_assign rfl) rfl ?_
  refine SPL_y (y_assign rfl) rfl ?_
  refine SPL_nil ?_
  refine thenP_n ?_
  refine SP_ret ?_
  refine bodyP_ret (H' := [List.flatten [blk x 119 (instR pv rv kv (.slice (some ⟨bs, 0, none⟩) ((A.length : Nat) : Int).toNat sc) E { R with st := A }), blk bs 110 (R.st.flatMap wv ++ sps)], blk bg 110 (args.flatMap wv ++ [])]) (Res2 rfl rfl rfl) (by repeat (first | exact Part.nil _ | (apply Part.cons; (first | exact P0 | exact P1 | exact P2 | exact P3 | exact P4 | exact P5 | exact P6 | exact P7 | exact P8 | exact P9 | exact P10 | exact P11 | exact P12 | exact P13 | exact P14 | exact P15 | exact P16 | exact P17 | exact P18 | exact P19 | exact P20 | exact P21 | exact P22 | exact P23)) | (apply Part.flat; simp only [List.cons_append, List.nil_append]) | (apply Part.nilc))) ?_
  refine ⟨_, some ⟨bg, 0, none⟩, args.length, blk bg 110 (args.flatMap wv ++ []), rfl, rfl, isR.intro (by dsimp only; omega) ?_, Arr.mk (flat_len wv_len _) (Nat.le_refl _) (by simp)⟩
  have := hst.cut (j := ((A.length : Nat) : Int).toNat) (by omega)
  rw [flat_take wv_len (by omega)] at this
  have e : R.st.take ((A.length : Nat) : Int).toNat = A := by rw [Int.toNat_natCast, hst0, List.take_left]
  rw [e] at this
  exact this

theorem rm_take (x : Nat) (pv rv kv : Value) (E : RE) (R : RS) (s : Seg) (hm : isR x pv rv kv E R s) (A args : List W) (hst0 : R.st = A ++ args) (types : List UInt8) (ht : args.map W.t = types) (hz : R.st.length ≤ 1000000) : Spec Tryz.prog 139 [.pointer (some ⟨x, 0, none⟩), S types] [s] (Ret fun v H => ∃ s' ga gc sg, v = .tuple #[.slice ga args.length gc, .bool true] ∧ H = [s', sg] ∧ isR x pv rv kv E { R with st := A } s' ∧ Arr 110 2 ga args.length gc (args.flatMap wv) sg) := by
  by_cases h : 0 < args.length
  · exact rm_takeG x pv rv kv E R s hm A args hst0 types ht h hz
  · exact rm_take0 x pv rv kv E R s hm A args hst0 types ht (by omega) hz

end Go.Sl
