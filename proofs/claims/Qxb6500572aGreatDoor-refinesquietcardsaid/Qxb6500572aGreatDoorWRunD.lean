/- Walks: package run, jump and leave (made by program out of short notes) -/
import Derived.Test.Qxb6500572aGreatDoorWRunC
import Derived.Test.Qxb6500572aGreatDoorWPrepM
namespace Go.Sl
open Go Go.Wl Go.Proofs
set_option maxRecDepth 100000
set_option linter.unusedVariables false
set_option linter.unusedSimpArgs false
theorem fr_split {l : List Fr} (h : 0 < l.length) : l.flatMap frV = (l.take (l.length - 1)).flatMap frV ++ frV (l[l.length - 1]'(by omega)) ++ [] := by
  have := flat_split frV (l := l) (a := l.length - 1) (by omega)
  rw [this, List.drop_eq_nil_of_le (by omega)]; rfl
theorem fr_set {l : List Fr} (h : 0 < l.length) (f : Fr) : (l.set (l.length - 1) f).flatMap frV = (l.take (l.length - 1)).flatMap frV ++ frV f ++ [] := by
  rw [List.set_eq_take_append_cons_drop, if_pos (by omega), List.drop_eq_nil_of_le (by omega)]; simp

theorem fr_upd {i : Inst} {fc : Nat} {bf : Nat} {spf : List Value} {q : Nat} {j : Int} {v : Value} (f' : Fr) (hj : j = (i.fr.length : Int) - 1) (hN : 0 < i.fr.length) (hq : q < 5) (hfc : i.fr.length ≤ fc) (hspf : spf.length = (fc - i.fr.length) * 5) (hv : (frV (i.fr[i.fr.length - 1]'(by omega))).set q v = frV f') :
    Arr 257 5 (some ⟨bf, 0, none⟩) (i.setTop f').fr.length fc ((i.setTop f').fr.flatMap frV) (blk bf 257 ((i.fr.flatMap frV ++ spf).set (0 + j.toNat * 5 + q) v)) := by
  have hla : ((i.fr.take (i.fr.length - 1)).flatMap frV).length = (i.fr.length - 1) * 5 := by rw [flat_len frV_len, List.length_take, Nat.min_eq_left (by omega)]
  rw [fr_split hN, mid_set (q := q) (i := i.fr.length - 1) (by omega) hla (by rw [frV_len]; exact hq), hv, ← fr_set hN f']
  exact Arr.mk (by rw [flat_len frV_len]) (by simpa [Inst.setTop] using hfc) (by simpa [Inst.setTop] using hspf)

theorem run_jump (x : Nat) (pv kv : Value) (bf : Nat) (i : Inst) (s : Seg) (hm : isInst x pv kv (some ⟨bf, 0, none⟩) i s) (hN : 0 < i.fr.length) (hz : i.st.length ≤ 1000000 ∧ i.fr.length ≤ 1000000) (c : Flat) (a mid kp : List W) (hst0 : i.st = a ++ mid ++ kp) (hc : (c.keep : Int) = kp.length) (hcut : ∀ h : i.fr.length - 1 < i.fr.length, (i.fr[i.fr.length - 1].floor : Int) + c.cut = a.length) : Spec Tryz.prog 131 [.pointer (some ⟨x, 0, none⟩), .pointer (some ⟨bf, 0 + ((i.fr.length : Int) - 1).toNat * 5, none⟩), .agg (flatV c).toArray] [s] (Ret fun v H => ∃ s', v = .tuple #[] ∧ H = [s'] ∧ isInst x pv kv (some ⟨bf, 0, none⟩) ({ i with st := a ++ kp }.setTop { i.top with pc := c.imm }) s') := by
  have hm0 := hm
  obtain ⟨sa, sc, fc, ss, sf, rfl, hst, hfr⟩ := hm
  refine Spec_flat ?_
  simp only [List.cons_append, List.nil_append]
  obtain ⟨bf', spf, hbf, hfc, hspf, rfl⟩ := hfr.row (by first | exact hN | omega)
  obtain rfl : bf = bf' := by simpa using hbf
  clear hbf
  have hfl : i.fr.length - 1 < i.fr.length := by omega
  obtain ⟨fr, hfre⟩ : ∃ x, i.fr[i.fr.length - 1] = x := ⟨_, rfl⟩
  have hct := hcut hfl
  rw [hfre] at hct
  have hsl : i.st.length = a.length + mid.length + kp.length := by rw [hst0]; simp; omega
  have htop : i.top = fr := by unfold Inst.top; rw [List.getD_eq_getElem?_getD, List.getElem?_eq_getElem hfl, hfre]; rfl
  obtain ⟨cop, cimm, ckeep, ccut⟩ := c
  simp only at hc hct
  subst hc
  refine Spec_enter Tryz.func131 rfl Tryz.ntmps131 rfl ?_
  show SP _ _ _ _ _ [(0, _), (1, _), (2, _)] _
  refine SP_seq ?_
  refine SP_region ?_
  refine SPL_one rfl (SP1_box rfl rfl rfl ?_)
  intro b5
  refine SPL_nil ?_
  refine thenP_n ?_
  refine SP_seq ?_
  refine SP_draw 10 [(0, 0), (1, 0), (2, 0), (3, 0), (5, 0), (8, 0), (4, 1), (6, 1), (7, 0), (9, 1), (10, 3)] mixed (by kernel_rfl) (fun _ _ _ _ _ h => h) (Part.refl _) ?_
  refine SPO_p rfl (y_move rfl) rfl ?_
  refine SPO_p rfl (y_move rfl) rfl ?_
  refine SPO_p rfl (y_nil rfl) rfl ?_
  refine SPO_p rfl (y_fa fld_257_3 rfl) rfl ?_
  refine SPO_p rfl (y_fa fld_181_3 rfl) rfl ?_
  refine SPO_p rfl (y_fa fld_181_2 rfl) rfl ?_
  refine SPO_h rfl (y_load Tryz.isAgg3 rfl (by repeat (first | exact Cell.elem (q := 3) frV_len (i := i.fr.length - 1) (by omega) hfl (by rw [hfre]; rfl) | apply Cell.tail))) rfl ?_
  refine SPO_h rfl (y_load Tryz.isAgg3 rfl (by repeat (first | exact Cell.head rfl | apply Cell.tail))) rfl ?_
  refine SPO_p rfl (y_addE rfl rfl (by omega) (show _ = ((a.length : Nat) : Int) by omega)) rfl ?_
  refine SPO_h rfl (y_load Tryz.isAgg3 rfl (by repeat (first | exact Cell.head rfl | apply Cell.tail))) rfl ?_
  refine SPO_z (k := 0) rfl rfl (SP1_call (run_cut x pv kv (some ⟨bf, 0, none⟩) i _ hm0 hz a mid kp hst0) Tryz.call146 rfl rfl (by repeat (first | exact Part.nil _ | (apply Part.cons; (first | exact P0 | exact P1 | exact P2 | exact P3 | exact P4 | exact P5 | exact P6 | exact P7 | exact P8 | exact P9 | exact P10 | exact P11 | exact P12 | exact P13 | exact P14 | exact P15 | exact P16 | exact P17 | exact P18 | exact P19 | exact P20 | exact P21 | exact P22 | exact P23)) | (apply Part.flat; simp only [List.cons_append, List.nil_append]) | (apply Part.nilc))) ?_)
  rintro v post H' ⟨s1, rfl, rfl, hm1⟩ hH
  try simp only [List.cons_append, List.nil_append] at hH
  subst hH
  refine SPO_nil ?_
  refine thenP_n ?_
  obtain ⟨sa1, sc1, fc1, ss1, sf1, rfl, hst1, hfr1⟩ := hm1
  refine SP_open (by first | exact P0 | exact P1 | exact P2 | exact P3 | exact P4 | exact P5 | exact P6 | exact P7 | exact P8 | exact P9 | exact P10 | exact P11 | exact P12 | exact P13 | exact P14 | exact P15 | exact P16 | exact P17 | exact P18 | exact P19 | exact P20 | exact P21 | exact P22 | exact P23) ?_
  simp only [List.cons_append, List.nil_append]
  obtain ⟨bf', spf1, hbf1, hfc1, hspf1, rfl⟩ := hfr1.row (by first | exact hN | omega)
  obtain rfl : bf = bf' := by simpa using hbf1
  clear hbf1
  have hlf : (i.fr.flatMap frV).length = i.fr.length * 5 := flat_len frV_len _
  refine SP_region ?_
  refine SPL_y (y_move rfl) rfl ?_
  refine SPL_y (y_fa fld_181_1 rfl) rfl ?_
  refine SPL_y (y_load Tryz.isAgg3 rfl (by repeat (first | exact Cell.head rfl | apply Cell.tail))) rfl ?_
  refine SPL_y (y_nil rfl) rfl ?_
  refine SPL_y (y_fa fld_257_1 rfl) rfl ?_
  refine SPL_one rfl (SP1_store Tryz.sizeOf3 rfl rfl rfl (by first | exact U0 | exact U1 | exact U2 | exact U3 | exact U4 | exact U5 | exact U6 | exact U7 | exact U8 | exact U9 | exact U10 | exact U11 | exact U12 | exact U13 | exact U14 | exact U15 | exact U16 | exact U17 | exact U18 | exact U19 | exact U20 | exact U21 | exact U22 | exact U23) (Nat.ble_eq_true_of_le (by simp only [List.length_append]; omega)) ?_)
  refine SPL_nil ?_
  refine bodyP_end (H' := [List.flatten [blk x 93 [pv, kv, .slice sa1 (a ++ kp).length sc1, .slice (some ⟨bf, 0, none⟩) i.fr.length fc1, I i.used, I i.high], ss1, blk bf 257 ((i.fr.flatMap frV ++ spf1).set (0 + ((i.fr.length : Int) - 1).toNat * 5 + 1) (I cimm))]]) (Res0 rfl) (by repeat (first | exact Part.nil _ | (apply Part.cons; (first | exact P0 | exact P1 | exact P2 | exact P3 | exact P4 | exact P5 | exact P6 | exact P7 | exact P8 | exact P9 | exact P10 | exact P11 | exact P12 | exact P13 | exact P14 | exact P15 | exact P16 | exact P17 | exact P18 | exact P19 | exact P20 | exact P21 | exact P22 | exact P23)) | (apply Part.flat; simp only [List.cons_append, List.nil_append]) | (apply Part.nilc))) ?_
  refine ⟨_, rfl, rfl, sa1, sc1, fc1, ss1, _, by rw [show (({ i with st := a ++ kp } : Inst).setTop { i.top with pc := cimm }).fr.length = i.fr.length by simp [Inst.setTop]]; rfl, hst1, ?_⟩
  exact fr_upd (i := { i with st := a ++ kp }) _ rfl hN (by decide) hfc1 hspf1 (by rw [htop]; simp only [hfre]; rfl)

end Go.Sl
