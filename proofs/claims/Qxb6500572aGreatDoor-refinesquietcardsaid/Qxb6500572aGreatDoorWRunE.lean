/- Walks: package run, leave and enter (made by program out of short notes) -/
import Derived.Test.Qxb6500572aGreatDoorWRunD
namespace Go.Sl
open Go Go.Wl Go.Proofs
set_option maxRecDepth 100000
set_option linter.unusedVariables false
set_option linter.unusedSimpArgs false
theorem fr_take {l : List Fr} {k : Nat} (h : k ≤ l.length) : (l.flatMap frV).take (k * 5) = (l.take k).flatMap frV := by
  have e : l = l.take k ++ l.drop k := (List.take_append_drop k l).symm
  have hl : ((l.take k).flatMap frV).length = k * 5 := by rw [flat_len frV_len, List.length_take, Nat.min_eq_left h]
  conv => lhs; rw [e, List.flatMap_append]
  rw [← hl, List.take_left]

theorem run_leave (x : Nat) (pv kv : Value) (bf : Nat) (i : Inst) (s : Seg) (hm : isInst x pv kv (some ⟨bf, 0, none⟩) i s) (hN : 0 < i.fr.length) (hz : i.st.length ≤ 1000000 ∧ i.fr.length ≤ 1000000) (lo mid vals : List W) (hst0 : i.st = lo ++ mid ++ vals) (hb : i.top.base = lo.length) (hfo : i.top.floor ≤ lo.length + mid.length) (hr : i.top.res = vals.map W.t) : Spec Tryz.prog 130 [.pointer (some ⟨x, 0, none⟩)] [s] (Ret fun v H => ∃ s', v = .tuple #[] ∧ H = [s'] ∧ isInst x pv kv (some ⟨bf, 0, none⟩) { i with st := lo ++ vals, fr := i.fr.take (i.fr.length - 1) } s') := by
  have hm0 := hm
  obtain ⟨sa, sc, fc, ss, sf, rfl, hst, hfr⟩ := hm
  refine Spec_flat ?_
  simp only [List.cons_append, List.nil_append]
  obtain ⟨bf', spf, hbf, hfc, hspf, rfl⟩ := hfr.row (by first | exact hN | omega)
  obtain rfl : bf = bf' := by simpa using hbf
  clear hbf
  have hfl : i.fr.length - 1 < i.fr.length := by omega
  obtain ⟨fr, hfre⟩ : ∃ x, i.fr[i.fr.length - 1] = x := ⟨_, rfl⟩
  have htop : i.top = fr := by unfold Inst.top; rw [List.getD_eq_getElem?_getD, List.getElem?_eq_getElem hfl, hfre]; rfl
  have hsl : i.st.length = lo.length + mid.length + vals.length := by rw [hst0]; simp; omega
  rw [htop] at hb hfo hr
  obtain ⟨ff, fpc, fbase, ffloor, fres⟩ := fr
  simp only at hb hfo hr
  subst hb
  have hll : fres.length = vals.length := by rw [hr]; simp
  refine Spec_enter Tryz.func130 rfl Tryz.ntmps130 rfl ?_
  show SP _ _ _ _ _ [(0, _)] _
  refine SP_seq ?_
  refine SP_draw 13 [(0, 0), (1, 0), (2, 0), (4, 0), (5, 0), (6, 0), (3, 1), (7, 1), (8, 0), (9, 0), (10, 0), (11, 1), (12, 2), (13, 3)] mixed (by kernel_rfl) (fun _ _ _ _ _ h => h) (Part.refl _) ?_
  refine SPO_p rfl (y_move rfl) rfl ?_
  refine SPO_p rfl (y_nil rfl) rfl ?_
  refine SPO_p rfl (y_fa fld_93_3 rfl) rfl ?_
  refine SPO_p rfl (y_move rfl) rfl ?_
  refine SPO_p rfl (y_nil rfl) rfl ?_
  refine SPO_p rfl (y_fa fld_93_3 rfl) rfl ?_
  refine SPO_h rfl (y_load Tryz.isAgg91 rfl (by repeat (first | exact Cell.head rfl | apply Cell.tail))) rfl ?_
  refine SPO_h rfl (y_load Tryz.isAgg91 rfl (by repeat (first | exact Cell.head rfl | apply Cell.tail))) rfl ?_
  refine SPO_p rfl (y_len_l Tryz.underlying91 rfl) rfl ?_
  refine SPO_p rfl (y_sub rfl rfl (by omega)) rfl ?_
  refine SPO_p rfl (y_ia Tryz.underlying91 Tryz.sizeOf257 rfl rfl (by omega)) rfl ?_
  refine SPO_h rfl (y_loads Tryz.isAgg257 Tryz.sizeOf257 rfl rfl (by repeat (first | exact Cells.elem (j := (i.fr.length : Int) - 1) frV_len (i := i.fr.length - 1) (by omega) hfl | apply Cells.tail))) rfl ?_
  rw [hfre]
  refine SPO_a rfl rfl (SP1_alloc Tryz.zeroValue257 rfl rfl ?_)
  intro b2
  refine ⟨⟨_, (by repeat (first | exact Part.nil _ | (apply Part.cons; (first | exact P0 | exact P1 | exact P2 | exact P3 | exact P4 | exact P5 | exact P6 | exact P7 | exact P8 | exact P9 | exact P10 | exact P11 | exact P12 | exact P13 | exact P14 | exact P15 | exact P16 | exact P17 | exact P18 | exact P19 | exact P20 | exact P21 | exact P22 | exact P23)) | (apply Part.flat; simp only [List.cons_append, List.nil_append]) | (apply Part.nilc)))⟩, ?_⟩
  refine SPO_z (k := 0) rfl rfl (SP1_storeAll Tryz.sizeOf257 rfl rfl rfl rfl rfl (by first | exact U0 | exact U1 | exact U2 | exact U3 | exact U4 | exact U5 | exact U6 | exact U7 | exact U8 | exact U9 | exact U10 | exact U11 | exact U12 | exact U13 | exact U14 | exact U15 | exact U16 | exact U17 | exact U18 | exact U19 | exact U20 | exact U21 | exact U22 | exact U23) (by rfl) ?_)
  refine SPO_nil ?_
  refine thenP_n ?_
  refine SP_seq ?_
  refine SP_region ?_
  refine SPL_y (y_move rfl) rfl ?_
  refine SPL_y (y_fa fld_257_4 rfl) rfl ?_
  refine SPL_y (y_load Tryz.isAgg9 rfl (by repeat (first | exact Cell.head rfl | apply Cell.tail))) rfl ?_
  refine SPL_y (y_fa fld_257_3 rfl) rfl ?_
  refine SPL_y (y_load Tryz.isAgg3 rfl (by repeat (first | exact Cell.head rfl | apply Cell.tail))) rfl ?_
  refine SPL_one rfl (SP1_call ((by have := run_top x pv kv (some ⟨bf, 0, none⟩) i _ hm0 hz (lo ++ mid) vals ffloor hst0 (by simp; omega); rw [← hr] at this; exact this)) Tryz.call127 rfl rfl (by repeat (first | exact Part.nil _ | (apply Part.cons; (first | exact P0 | exact P1 | exact P2 | exact P3 | exact P4 | exact P5 | exact P6 | exact P7 | exact P8 | exact P9 | exact P10 | exact P11 | exact P12 | exact P13 | exact P14 | exact P15 | exact P16 | exact P17 | exact P18 | exact P19 | exact P20 | exact P21 | exact P22 | exact P23)) | (apply Part.flat; simp only [List.cons_append, List.nil_append]) | (apply Part.nilc))) ?_)
  rintro v post H' ⟨rfl, rfl⟩ hH
  try simp only [List.cons_append, List.nil_append] at hH
  subst hH
  refine SPL_nil ?_
  refine thenP_n ?_
  refine SP_seq ?_
  refine SP_region ?_
  refine SPL_y (y_move rfl) rfl ?_
  refine SPL_y (y_fa fld_257_2 rfl) rfl ?_
  refine SPL_y (y_load Tryz.isAgg3 rfl (by repeat (first | exact Cell.head rfl | apply Cell.tail))) rfl ?_
  refine SPL_y (y_fa fld_257_4 rfl) rfl ?_
  refine SPL_y (y_load Tryz.isAgg9 rfl (by repeat (first | exact Cell.head rfl | apply Cell.tail))) rfl ?_
  refine SPL_y (y_len_s Tryz.underlying9 rfl) rfl ?_
  rw [hll]
  refine SPL_one rfl (SP1_call (run_cut x pv kv (some ⟨bf, 0, none⟩) i _ hm0 hz lo mid vals hst0) Tryz.call146 rfl rfl (by repeat (first | exact Part.nil _ | (apply Part.cons; (first | exact P0 | exact P1 | exact P2 | exact P3 | exact P4 | exact P5 | exact P6 | exact P7 | exact P8 | exact P9 | exact P10 | exact P11 | exact P12 | exact P13 | exact P14 | exact P15 | exact P16 | exact P17 | exact P18 | exact P19 | exact P20 | exact P21 | exact P22 | exact P23)) | (apply Part.flat; simp only [List.cons_append, List.nil_append]) | (apply Part.nilc))) ?_)
  rintro v post H' ⟨s1, rfl, rfl, hm1⟩ hH
  try simp only [List.cons_append, List.nil_append] at hH
  subst hH
  refine SPL_nil ?_
  refine thenP_n ?_
  obtain ⟨sa1, sc1, fc1, ss1, sf1, rfl, hst1, hfr1⟩ := hm1
  refine SP_open (by first | exact P0 | exact P1 | exact P2 | exact P3 | exact P4 | exact P5 | exact P6 | exact P7 | exact P8 | exact P9 | exact P10 | exact P11 | exact P12 | exact P13 | exact P14 | exact P15 | exact P16 | exact P17 | exact P18 | exact P19 | exact P20 | exact P21 | exact P22 | exact P23) ?_
  simp only [List.cons_append, List.nil_append]
  obtain ⟨bf', spf1, hbf1, hfc1, hspf1, rfl⟩ := hfr1.row (by first | exact hN | omega)
  obtain rfl : bf = bf' := by simpa using hbf1
  clear hbf1
  dsimp only at hfc1 hspf1
  refine SP_draw 14 [(0, 0), (1, 0), (2, 0), (3, 0), (5, 0), (6, 0), (7, 0), (4, 1), (8, 1), (9, 0), (10, 0), (11, 0), (12, 0), (13, 0), (14, 3)] mixed (by kernel_rfl) (fun _ _ _ _ _ h => h) (Part.refl _) ?_
  refine SPO_p rfl (y_move rfl) rfl ?_
  refine SPO_p rfl (y_move rfl) rfl ?_
  refine SPO_p rfl (y_nil rfl) rfl ?_
  refine SPO_p rfl (y_fa fld_93_3 rfl) rfl ?_
  refine SPO_p rfl (y_move rfl) rfl ?_
  refine SPO_p rfl (y_nil rfl) rfl ?_
  refine SPO_p rfl (y_fa fld_93_3 rfl) rfl ?_
  refine SPO_h rfl (y_load Tryz.isAgg91 rfl (by repeat (first | exact Cell.head rfl | apply Cell.tail))) rfl ?_
  refine SPO_h rfl (y_load Tryz.isAgg91 rfl (by repeat (first | exact Cell.head rfl | apply Cell.tail))) rfl ?_
  refine SPO_p rfl (y_len_l Tryz.underlying91 rfl) rfl ?_
  refine SPO_p rfl (y_sub rfl rfl (by omega)) rfl ?_
  refine SPO_p rfl (y_cut hfr1 Tryz.underlying91 Tryz.sizeOf257 rfl rfl (by omega)) rfl ?_
  refine SPO_p rfl (y_nil rfl) rfl ?_
  refine SPO_p rfl (y_fa fld_93_3 rfl) rfl ?_
  refine SPO_z (k := 0) rfl rfl (SP1_store Tryz.sizeOf91 rfl rfl rfl (by first | exact U0 | exact U1 | exact U2 | exact U3 | exact U4 | exact U5 | exact U6 | exact U7 | exact U8 | exact U9 | exact U10 | exact U11 | exact U12 | exact U13 | exact U14 | exact U15 | exact U16 | exact U17 | exact U18 | exact U19 | exact U20 | exact U21 | exact U22 | exact U23) (by rfl) ?_)
  refine SPO_nil ?_
  refine bodyP_end (H' := [List.flatten [blk x 93 [pv, kv, .slice sa1 (lo ++ vals).length sc1, .slice (some ⟨bf, 0, none⟩) ((i.fr.length : Int) - 1).toNat fc1, I i.used, I i.high], ss1, blk bf 257 (i.fr.flatMap frV ++ spf1)]]) (Res0 rfl) (by repeat (first | exact Part.nil _ | (apply Part.cons; (first | exact P0 | exact P1 | exact P2 | exact P3 | exact P4 | exact P5 | exact P6 | exact P7 | exact P8 | exact P9 | exact P10 | exact P11 | exact P12 | exact P13 | exact P14 | exact P15 | exact P16 | exact P17 | exact P18 | exact P19 | exact P20 | exact P21 | exact P22 | exact P23)) | (apply Part.flat; simp only [List.cons_append, List.nil_append]) | (apply Part.nilc))) ?_
  have e : ((i.fr.length : Int) - 1).toNat = (i.fr.take (i.fr.length - 1)).length := by rw [List.length_take, Nat.min_eq_left (by omega)]; omega
  refine ⟨_, rfl, rfl, sa1, sc1, fc1, ss1, _, by rw [e], hst1, ?_⟩
  have := hfr1.cut (j := i.fr.length - 1) (by simp)
  rw [fr_take (by simp)] at this
  show Arr 257 5 _ (i.fr.take (i.fr.length - 1)).length _ _ _
  rw [← e, show ((i.fr.length : Int) - 1).toNat = i.fr.length - 1 by omega]
  exact this

end Go.Sl
