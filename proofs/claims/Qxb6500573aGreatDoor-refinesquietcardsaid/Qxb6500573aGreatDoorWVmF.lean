/- Walks: package vm, closures (made by program out of short notes) -/
import Derived.Test.Qxb6500573aGreatDoorWVmE
import Derived.Test.Qxb6500573aGreatDoorSlWi
namespace Go.Sl
open Go Go.Wl Go.Proofs
set_option maxRecDepth 100000
set_option linter.unusedVariables false
set_option linter.unusedSimpArgs false
theorem captureM_pg {th : Nat} {at_ i : Int} {m m' : VM} (h : captureM th at_ m = some (i, m')) : m'.pg = m.pg := by
  unfold captureM at h
  obtain ⟨t, _, h⟩ := bnd1 h
  split at h
  · obtain ⟨k, _, h⟩ := bnd1 h
    have key : ∀ n, capNew th at_ n t m = some (i, m') → m'.pg = m.pg := fun n h => by
      unfold capNew at h
      split at h
      · injection h with h; injection h with h1 h2; rw [← h2]; rfl
      · cases h
    split at h
    · exact key _ h
    · obtain ⟨j, _, h⟩ := bnd1 h
      obtain ⟨e, _, h⟩ := bnd1 h
      split at h
      · injection h with h; injection h with h1 h2; rw [h2]
      · exact key _ h
  · cases h
theorem window_some {α : Type} {l ds : List α} {a n : Int} (h : window l a n = some ds) : ((0 ≤ a ∧ a ≤ 500000000) ∧ (0 ≤ n ∧ n ≤ 400000000) ∧ a + n ≤ l.length) ∧ ds.length = n.toNat ∧ ∀ k, k < ds.length → ds[k]? = l[a.toNat + k]? := by
  unfold window at h
  split at h
  · rename_i hb
    injection h with h
    subst h
    refine ⟨hb, by simp; omega, fun k hk => ?_⟩
    rw [List.length_take] at hk
    rw [List.getElem?_take_of_lt (by omega), List.getElem?_drop]
  · cases h
set_option maxHeartbeats 2000000 in
theorem vm_closure (b : VB) (ph : PH) (hh : List TH) {m : VM} {th i : Nat} {fv : Value} (hfv : FP hh th i fv) {x : Int} {o : Out Int} (hP : closureM th i x m = some o) (seg : Seg) (hM : isVM b ph hh m seg) : Spec Tryz.prog 295 [pt b.vb, I th, tp b th, fv, I x] [seg] (outR b ph hh (fun i => I i) o) := by
  unfold closureM at hP
  obtain ⟨la0, lc0, hcl0⟩ := hM.closL
  obtain ⟨ua0, uc0, hup0⟩ := hM.upixL
  refine Spec_enter Tryz.func295 rfl Tryz.ntmps295 rfl ?_
  show SP _ _ _ _ _ [(0, _), (1, _), (2, _), (3, _), (4, _)] _
  refine SP_seq ?_
  refine SP_region ?_
  refine SPL_y (y_assign rfl) rfl ?_
  refine SPL_nil ?_
  refine thenP_n ?_
  refine SP_seq ?_
  refine SP_seq ?_
  refine SP_region ?_
  refine SPL_y (y_move rfl) rfl ?_
  refine SPL_y (y_nil rfl) rfl ?_
  refine SPL_y (y_fa fld_115_6 rfl) rfl ?_
  refine SPL_y (y_load Tryz.isAgg111 rfl (by repeat (first | exact (hcl0 _) | apply Cell.tail))) rfl ?_
  refine SPL_y (y_len_l Tryz.underlying111 rfl) rfl ?_
  refine SPL_if (y_geq rfl rfl) rfl ?_ ?_
  · intro h1_5
    refine SPL_nil ?_
    refine thenP_n ?_
    refine SP_cond_t rfl ?_
    refine SP_region ?_
    refine SPL_one rfl (SP1_callp (vm_stop 8) Tryz.call260 rfl rfl (by repeat (first | exact Part.nil _ | (apply Part.cons; with_reducible (first | exact P0 | exact P1 | exact P2 | exact P3 | exact P4 | exact P5 | exact P6 | exact P7 | exact P8 | exact P9 | exact P10 | exact P11 | exact P12 | exact P13 | exact P14 | exact P15 | exact P16 | exact P17 | exact P18 | exact P19 | exact P20 | exact P21 | exact P22 | exact P23)) | (apply Part.flat; simp only [List.cons_append, List.nil_append]) | (apply Part.cons; (first | exact P0 | exact P1 | exact P2 | exact P3 | exact P4 | exact P5 | exact P6 | exact P7 | exact P8 | exact P9 | exact P10 | exact P11 | exact P12 | exact P13 | exact P14 | exact P15 | exact P16 | exact P17 | exact P18 | exact P19 | exact P20 | exact P21 | exact P22 | exact P23)) | (apply Part.nilc))) ?_ ?_)
    · rintro c post H' ⟨rfl, rfl⟩ hH
      try simp only [List.cons_append, List.nil_append] at hH
      subst hH
      refine thenP_panic (bodyP_panic (H' := [seg, []]) (by repeat (first | exact Part.nil _ | (apply Part.cons; with_reducible (first | exact P0 | exact P1 | exact P2 | exact P3 | exact P4 | exact P5 | exact P6 | exact P7 | exact P8 | exact P9 | exact P10 | exact P11 | exact P12 | exact P13 | exact P14 | exact P15 | exact P16 | exact P17 | exact P18 | exact P19 | exact P20 | exact P21 | exact P22 | exact P23)) | (apply Part.flat; simp only [List.cons_append, List.nil_append]) | (apply Part.cons; (first | exact P0 | exact P1 | exact P2 | exact P3 | exact P4 | exact P5 | exact P6 | exact P7 | exact P8 | exact P9 | exact P10 | exact P11 | exact P12 | exact P13 | exact P14 | exact P15 | exact P16 | exact P17 | exact P18 | exact P19 | exact P20 | exact P21 | exact P22 | exact P23)) | (apply Part.nilc))) ?_)
      rw [if_pos (by omega)] at hP
      injection hP with hP
      subst hP
      exact ⟨.trp 8 m, hh, seg, rfl, rfl, KF.refl _, hM, rfl⟩
    rintro v post H' hF hH
    exact hF.elim
  intro h1_5
  refine SPL_nil ?_
  refine thenP_n ?_
  refine SP_cond_f rfl ?_
  refine SP_skip ?_
  refine thenP_n ?_
  refine SP_seq ?_
  rw [if_neg (by omega)] at hP
  obtain ⟨q, hpr, hP⟩ := bnd1 hP
  obtain ⟨hxb, hxl, _, _, _⟩ := getI_some hpr
  obtain ⟨ds, hds, hP⟩ := bnd1 hP
  obtain ⟨⟨hw1, hw2, hw3⟩, hdl, hdg⟩ := window_some hds
  obtain ⟨pq, hpa, hpq⟩ := hM.proto hpr
  obtain ⟨m9, hum, hP⟩ := bnd1 hP
  have hM0 := hM
  have hpr0 : ∀ H : Hp, Cell (seg :: H) b.vb (0 + 2) (.slice (some ⟨pq, 0, none⟩) m.pg.protos.length ph.pc) := fun H => by have := hM.protos (H := H); rw [hpa] at this; exact this
  refine SP_region ?_
  refine SPL_y (y_move rfl) rfl ?_
  refine SPL_y (y_nil rfl) rfl ?_
  refine SPL_y (y_fa fld_115_2 rfl) rfl ?_
  refine SPL_y (y_load Tryz.isAgg108 rfl (by repeat (first | exact (hpr0 _) | apply Cell.tail))) rfl ?_
  refine SPL_y (y_move rfl) rfl ?_
  refine SPL_y (y_ia Tryz.underlying108 Tryz.sizeOf252 rfl rfl (by omega)) rfl ?_
  refine SPL_y (y_assign rfl) rfl ?_
  refine SPL_nil ?_
  refine thenP_n ?_
  refine SP_seq ?_
  refine SP_region ?_
  refine SPL_y (y_move rfl) rfl ?_
  refine SPL_y (y_nil rfl) rfl ?_
  refine SPL_y (y_fa fld_115_7 rfl) rfl ?_
  refine SPL_y (y_load Tryz.isAgg112 rfl (by repeat (first | exact (hup0 _) | apply Cell.tail))) rfl ?_
  refine SPL_y (y_len_l Tryz.underlying112 rfl) rfl ?_
  refine SPL_y (y_assign rfl) rfl ?_
  refine SPL_nil ?_
  refine thenP_n ?_
  refine SP_seq ?_
  refine SP_seq ?_
  obtain ⟨wa, hwa⟩ : ∃ wa, wa = winA ph.da 2 ph.dc q.up.toNat := ⟨_, rfl⟩
  have hda : plainA ph.da ∧ m.pg.descs.length ≤ ph.dc := by obtain ⟨h, _, hO⟩ := hM; exact ⟨hO.ds.plainA, hO.ds.mle⟩
  refine SP_draw 999 [(0, 0), (1, 0), (2, 0), (4, 0), (5, 0), (6, 0), (8, 0), (9, 0), (10, 0), (12, 0), (13, 0), (14, 0), (19, 0), (3, 1), (7, 1), (11, 1), (15, 1), (16, 0), (17, 0), (18, 0)] mixed (by kernel_rfl) (fun _ _ _ _ _ h => h) (Part.refl _) ?_
  refine SPO_p rfl (y_move rfl) rfl ?_
  refine SPO_p rfl (y_nil rfl) rfl ?_
  refine SPO_p rfl (y_fa fld_115_3 rfl) rfl ?_
  refine SPO_p rfl (y_move rfl) rfl ?_
  refine SPO_p rfl (y_nil rfl) rfl ?_
  refine SPO_p rfl (y_fa fld_252_2 rfl) rfl ?_
  refine SPO_p rfl (y_move rfl) rfl ?_
  refine SPO_p rfl (y_nil rfl) rfl ?_
  refine SPO_p rfl (y_fa fld_252_2 rfl) rfl ?_
  refine SPO_p rfl (y_move rfl) rfl ?_
  refine SPO_p rfl (y_nil rfl) rfl ?_
  refine SPO_p rfl (y_fa fld_252_3 rfl) rfl ?_
  refine SPO_p rfl (y_move rfl) rfl ?_
  refine SPO_h rfl (y_load Tryz.isAgg109 rfl (by repeat (first | exact hM.descs | apply Cell.tail))) rfl ?_
  refine SPO_h rfl (y_load Tryz.isAgg3 rfl (by repeat (first | exact ((hpq _).cell rfl) | apply Cell.tail))) rfl ?_
  refine SPO_h rfl (y_load Tryz.isAgg3 rfl (by repeat (first | exact ((hpq _).cell rfl) | apply Cell.tail))) rfl ?_
  refine SPO_h rfl (y_load Tryz.isAgg3 rfl (by repeat (first | exact ((hpq _).cell rfl) | apply Cell.tail))) rfl ?_
  refine SPO_p rfl (y_add rfl rfl (by omega)) rfl ?_
  refine SPO_p rfl (y_win (a := ph.da) hda.1 Tryz.underlying109 Tryz.sizeOf321 rfl rfl rfl (by omega)) rfl ?_
  rw [← hwa, show (q.up + q.nup).toNat - q.up.toNat = ds.length from by omega]
  refine SPO_p rfl (y_len_l Tryz.underlying109 rfl) rfl ?_
  refine SPO_nil ?_
  refine thenP_n ?_
  refine SP_block ?_
  refine SP_loop (G := Nat × VM × Seg) (fun g => ds.length - g.1) (fun g => [(0, pt b.vb), (1, I th), (2, tp b th), (3, fv), (4, I x), (11, .pointer (some ⟨pq, 0 + x.toNat * 8, none⟩)), (12, I m.vs.upix.length), (51, .slice wa ds.length (ph.dc - q.up.toNat)), (52, I ds.length), (53, I g.1)]) (fun g => [g.2.2]) (fun g => isVM b ph hh g.2.1 g.2.2 ∧ upsM th i (ds.drop g.1) g.2.1 = some m9 ∧ g.2.1.pg = m.pg ∧ g.1 ≤ ds.length) ((0, m, seg)) (⟨hM, by simpa using hum, rfl, Nat.zero_le _⟩) (by repeat (first | exact Sub.nil _ | refine Sub.cons rfl ?_)) (by repeat (first | exact Part.nil _ | (apply Part.cons; with_reducible (first | exact P0 | exact P1 | exact P2 | exact P3 | exact P4 | exact P5 | exact P6 | exact P7 | exact P8 | exact P9 | exact P10 | exact P11 | exact P12 | exact P13 | exact P14 | exact P15 | exact P16 | exact P17 | exact P18 | exact P19 | exact P20 | exact P21 | exact P22 | exact P23)) | (apply Part.flat; simp only [List.cons_append, List.nil_append]) | (apply Part.cons; (first | exact P0 | exact P1 | exact P2 | exact P3 | exact P4 | exact P5 | exact P6 | exact P7 | exact P8 | exact P9 | exact P10 | exact P11 | exact P12 | exact P13 | exact P14 | exact P15 | exact P16 | exact P17 | exact P18 | exact P19 | exact P20 | exact P21 | exact P22 | exact P23)) | (apply Part.nilc))) ?_
  rintro ⟨j, mj, sgj⟩ ⟨hM, hU, hpg, hj⟩
  dsimp only at hM hU hpg hj ⊢
  refine SP_seq ?_
  refine SP_region ?_
  refine SPL_ifn (y_lss rfl rfl) rfl ?_ ?_
  · intro h6_0
    refine SPL_nil ?_
    refine thenP_n ?_
    refine SP_seq ?_
    refine SP_cond_f rfl ?_
    refine SP_exit ?_
    refine thenP_exit ?_
    refine thenP_exit ?_
    refine inBlockP_hit ?_
    refine thenP_n ?_
    refine SP_seq ?_
    obtain rfl : j = ds.length := by omega
    rw [List.drop_length, upsM] at hU
    injection hU with hU
    subst hU
    have hcl9 : mj.vs.clos.length < 1000000 := Decidable.byContradiction fun q => by rw [if_neg q] at hP; cases hP
    rw [if_pos hcl9] at hP
    injection hP with hP
    subst hP
    obtain ⟨pq', hpa', hpq9⟩ := hM.proto (by rw [hpg]; exact hpr)
    rw [hpa] at hpa'
    injection hpa' with hpa'
    injection hpa' with hpa'
    subst hpa'
    have hn13 := hpq9 []
    obtain ⟨la, ua, ea, xa, lc, uc, ec, xc, r, sl, r2, rfl, hcls, hputL⟩ := hM.opnL
    have hn14 : Cell [blk b.vb 115 [pt b.nb, pt b.tb, .slice ph.pa mj.pg.protos.length ph.pc, .slice ph.da mj.pg.descs.length ph.dc, .slice ph.ka mj.pg.consts.length ph.kc, .slice ph.ca mj.pg.code.length ph.cc, .slice la mj.vs.clos.length lc, .slice ua mj.vs.upix.length uc, .slice ea mj.vs.cells.length ec, .slice (some ⟨b.thb, 0, none⟩) mj.vs.threads.length 5, I mj.vs.fuel, .slice xa mj.vs.out.length xc, I mj.ended], r, sl, r2] pq (0 + x.toNat * 8 + 3) (I q.nup) := (Cells.opened (H := []) hn13).cell rfl
    refine SP_openAt [blk b.vb 115 [pt b.nb, pt b.tb, .slice ph.pa mj.pg.protos.length ph.pc, .slice ph.da mj.pg.descs.length ph.dc, .slice ph.ka mj.pg.consts.length ph.kc, .slice ph.ca mj.pg.code.length ph.cc, .slice la mj.vs.clos.length lc, .slice ua mj.vs.upix.length uc, .slice ea mj.vs.cells.length ec, .slice (some ⟨b.thb, 0, none⟩) mj.vs.threads.length 5, I mj.vs.fuel, .slice xa mj.vs.out.length xc, I mj.ended], r, sl, r2] (by first | exact P0 | exact P1 | exact P2 | exact P3 | exact P4 | exact P5 | exact P6 | exact P7 | exact P8 | exact P9 | exact P10 | exact P11 | exact P12 | exact P13 | exact P14 | exact P15 | exact P16 | exact P17 | exact P18 | exact P19 | exact P20 | exact P21 | exact P22 | exact P23) ?_
    simp only [List.cons_append, List.nil_append]
    refine SP_draw 13 [(0, 0), (1, 0), (2, 0), (3, 0), (5, 0), (6, 0), (7, 0), (8, 0), (9, 0), (4, 1), (10, 1), (11, 0), (12, 2), (13, 3), (14, 0), (15, 0), (16, 3)] mixed (by kernel_rfl) (fun _ _ _ _ _ h => h) (Part.refl _) ?_
    refine SPO_p rfl (y_move rfl) rfl ?_
    refine SPO_p rfl (y_move rfl) rfl ?_
    refine SPO_p rfl (y_nil rfl) rfl ?_
    refine SPO_p rfl (y_fa fld_115_6 rfl) rfl ?_
    refine SPO_p rfl (y_move rfl) rfl ?_
    refine SPO_p rfl (y_move rfl) rfl ?_
    refine SPO_p rfl (y_move rfl) rfl ?_
    refine SPO_p rfl (y_nil rfl) rfl ?_
    refine SPO_p rfl (y_fa fld_252_3 rfl) rfl ?_
    refine SPO_h rfl (y_load Tryz.isAgg111 rfl (by repeat (first | exact Cell.amid hpre rfl | exact Cell.head rfl | apply Cell.tail))) rfl ?_
    refine SPO_h rfl (y_load Tryz.isAgg3 rfl (by repeat (first | exact hn14 | apply Cell.tail))) rfl ?_
    refine SPO_p rfl (y_build B181 rfl rfl (by simp only [fillL, List.foldl_cons, List.foldl_nil, List.set_cons_zero, List.set_cons_succ]; exact rfl)) rfl ?_
    refine SPO_a rfl rfl (SP1_slice1 el_111 rfl rfl rfl rfl rfl ?_)
    intro b116
    refine ⟨⟨_, (by repeat (first | exact Part.nil _ | (apply Part.cons; with_reducible (first | exact P0 | exact P1 | exact P2 | exact P3 | exact P4 | exact P5 | exact P6 | exact P7 | exact P8 | exact P9 | exact P10 | exact P11 | exact P12 | exact P13 | exact P14 | exact P15 | exact P16 | exact P17 | exact P18 | exact P19 | exact P20 | exact P21 | exact P22 | exact P23)) | (apply Part.flat; simp only [List.cons_append, List.nil_append]) | (apply Part.cons; (first | exact P0 | exact P1 | exact P2 | exact P3 | exact P4 | exact P5 | exact P6 | exact P7 | exact P8 | exact P9 | exact P10 | exact P11 | exact P12 | exact P13 | exact P14 | exact P15 | exact P16 | exact P17 | exact P18 | exact P19 | exact P20 | exact P21 | exact P22 | exact P23)) | (apply Part.nilc)))⟩, ?_⟩
    refine SPO_z (k := 0) rfl rfl (SP1_append el_111 (.inl Tryz.underlying111) rfl rfl hcls (by first | exact P0 | exact P1 | exact P2 | exact P3 | exact P4 | exact P5 | exact P6 | exact P7 | exact P8 | exact P9 | exact P10 | exact P11 | exact P12 | exact P13 | exact P14 | exact P15 | exact P16 | exact P17 | exact P18 | exact P19 | exact P20 | exact P21 | exact P22 | exact P23) (Src.of (by repeat (first | exact Cells.all _ | exact Cells.amid hpre rfl (by decide) | exact Cells.head rfl | apply Cells.tail)) (by rfl)) (by rfl) (by omega) rfl ?_)
    intro la1 lc1 sl1 hA1
    refine SPO_p rfl (y_nil rfl) rfl ?_
    refine SPO_p rfl (y_fa fld_115_6 rfl) rfl ?_
    refine SPO_z (k := 0) rfl rfl (SP1_store Tryz.sizeOf111 rfl rfl rfl (by first | exact U0 | exact U1 | exact U2 | exact U3 | exact U4 | exact U5 | exact U6 | exact U7 | exact U8 | exact U9 | exact U10 | exact U11 | exact U12 | exact U13 | exact U14 | exact U15 | exact U16 | exact U17 | exact U18 | exact U19 | exact U20 | exact U21 | exact U22 | exact U23) (by rfl) ?_)
    rw [show mj.vs.clos.length + 1 = (mj.vs.clos ++ [(⟨x, m.vs.upix.length, q.nup⟩ : Cl)]).length from by simp] at hA1 ⊢
    rw [show mj.vs.clos.flatMap clV ++ _ = (mj.vs.clos ++ [(⟨x, m.vs.upix.length, q.nup⟩ : Cl)]).flatMap clV from by rw [List.flatMap_append]; rfl] at hA1
    refine SPO_nil ?_
    refine thenP_n ?_
    refine SP_seq ?_
    refine SP_region ?_
    refine SPL_y (y_move rfl) rfl ?_
    refine SPL_y (y_nil rfl) rfl ?_
    refine SPL_y (y_fa fld_115_6 rfl) rfl ?_
    refine SPL_y (y_load Tryz.isAgg111 rfl (by repeat (first | exact Cell.amid hpre rfl | exact Cell.head rfl | apply Cell.tail))) rfl ?_
    refine SPL_y (y_len_l Tryz.underlying111 rfl) rfl ?_
    refine SPL_y (y_sub rfl rfl (by simp only [List.length_append, List.length_cons, List.length_nil]; omega)) rfl ?_
    refine SPL_y (y_assign rfl) rfl ?_
    refine SPL_nil ?_
    refine thenP_n ?_
    refine SP_ret ?_
    refine bodyP_ret (H' := [List.flatten [blk b.vb 115 [pt b.nb, pt b.tb, .slice ph.pa mj.pg.protos.length ph.pc, .slice ph.da mj.pg.descs.length ph.dc, .slice ph.ka mj.pg.consts.length ph.kc, .slice ph.ca mj.pg.code.length ph.cc, .slice la1 (mj.vs.clos ++ [(⟨x, m.vs.upix.length, q.nup⟩ : Cl)]).length lc1, .slice ua mj.vs.upix.length uc, .slice ea mj.vs.cells.length ec, .slice (some ⟨b.thb, 0, none⟩) mj.vs.threads.length 5, I mj.vs.fuel, .slice xa mj.vs.out.length xc, I mj.ended], r, sl1, r2]]) (Res1 rfl rfl) (by repeat (first | exact Part.nil _ | (apply Part.cons; with_reducible (first | exact P0 | exact P1 | exact P2 | exact P3 | exact P4 | exact P5 | exact P6 | exact P7 | exact P8 | exact P9 | exact P10 | exact P11 | exact P12 | exact P13 | exact P14 | exact P15 | exact P16 | exact P17 | exact P18 | exact P19 | exact P20 | exact P21 | exact P22 | exact P23)) | (apply Part.flat; simp only [List.cons_append, List.nil_append]) | (apply Part.cons; (first | exact P0 | exact P1 | exact P2 | exact P3 | exact P4 | exact P5 | exact P6 | exact P7 | exact P8 | exact P9 | exact P10 | exact P11 | exact P12 | exact P13 | exact P14 | exact P15 | exact P16 | exact P17 | exact P18 | exact P19 | exact P20 | exact P21 | exact P22 | exact P23)) | (apply Part.nilc))) ?_
    exact ⟨_, _, rfl, by simp, hh, _, KF.refl hh, hputL (mj.vs.clos ++ [(⟨x, m.vs.upix.length, q.nup⟩ : Cl)]) la1 lc1 sl1 hA1, rfl⟩
  intro h6_0
  refine SPL_nil ?_
  refine thenP_n ?_
  refine SP_seq ?_
  refine SP_cond_t rfl ?_
  refine SP_skip ?_
  refine thenP_n ?_
  refine SP_seq ?_
  refine SP_block ?_
  refine SP_seq ?_
  have hjl : j < ds.length := by omega
  obtain ⟨d, hd⟩ : ∃ d, ds[j]? = some d := ⟨_, List.getElem?_eq_getElem hjl⟩
  have hdm : getI mj.pg.descs (q.up + j) = some d := by
    unfold getI
    rw [if_pos (by omega), hpg, show (q.up + (j : Int)).toNat = q.up.toNat + j from by omega, ← hdg j hjl, hd]
  obtain ⟨dq, hda1, hdc⟩ := hM.desc hdm
  have hwa1 : wa = some ⟨dq, 0 + q.up.toNat * 2, none⟩ := by rw [hwa, hda1, winA_some (by omega)]
  subst hwa1
  have hdd : ds.drop j = d :: ds.drop (j + 1) := by rw [List.drop_eq_getElem_cons hjl]; congr 1; exact (List.getElem?_eq_some_iff.1 hd).2
  rw [hdd] at hU
  unfold upsM at hU
  obtain ⟨f, hf, hU⟩ := bnd1 hU
  have hdc2 : ∀ H : Hp, Cells (sgj :: H) dq (0 + q.up.toNat * 2 + ((j : Nat) : Int).toNat * 2) (upV d) := fun H => by
    have := hdc H
    rw [show 0 + q.up.toNat * 2 + ((j : Nat) : Int).toNat * 2 = 0 + (q.up + (j : Int)).toNat * 2 from by omega]
    exact this
  refine SP_region ?_
  refine SPL_y (y_ia Tryz.underlying109 Tryz.sizeOf321 rfl rfl (by omega)) rfl ?_
  refine SPL_y (y_loads Tryz.isAgg321 Tryz.sizeOf321 rfl rfl (by repeat (first | exact (hdc2 _) | apply Cells.tail))) rfl ?_
  refine SPL_one rfl (SP1_alloc Tryz.zeroValue321 rfl rfl ?_)
  intro b14
  refine SPL_one rfl (SP1_storeAll Tryz.sizeOf321 rfl rfl rfl rfl rfl (by first | exact U0 | exact U1 | exact U2 | exact U3 | exact U4 | exact U5 | exact U6 | exact U7 | exact U8 | exact U9 | exact U10 | exact U11 | exact U12 | exact U13 | exact U14 | exact U15 | exact U16 | exact U17 | exact U18 | exact U19 | exact U20 | exact U21 | exact U22 | exact U23) (by rfl) ?_)
  refine SPL_nil ?_
  refine thenP_n ?_
  refine SP_seq ?_
  refine SP_region ?_
  refine SPL_y (y_assign rfl) rfl ?_
  refine SPL_nil ?_
  refine thenP_n ?_
  refine SP_seq ?_
  refine SP_seq ?_
  refine SP_region ?_
  refine SPL_y (y_fa fld_321_0 rfl) rfl ?_
  refine SPL_y (y_load Tryz.isAgg5 rfl (by repeat (first | exact Cell.amid hpre rfl | exact Cell.head rfl | apply Cell.tail))) rfl ?_
  refine SPL_if (y_eql rfl rfl) rfl ?_ ?_
  · intro h9_2
    refine SPL_nil ?_
    refine thenP_n ?_
    refine SP_cond_t rfl ?_
    rw [if_pos h9_2] at hU
    have hbr : (0 ≤ f.base ∧ f.base ≤ 1000000000) ∧ 0 ≤ d.2 ∧ d.2 ≤ 255 := Decidable.byContradiction fun q => by rw [if_neg q] at hU; cases hU
    rw [if_pos hbr] at hU
    have hfv0 := hfv
    obtain ⟨g, q0, hg, hq, rfl⟩ := hfv0
    refine SP_draw 11 [(0, 0), (1, 0), (2, 0), (3, 0), (4, 0), (5, 0), (7, 0), (6, 1), (8, 1), (9, 0), (10, 0), (11, 3), (12, 0)] mixed (by kernel_rfl) (fun _ _ _ _ _ h => h) (Part.refl _) ?_
    refine SPO_p rfl (y_move rfl) rfl ?_
    refine SPO_p rfl (y_move rfl) rfl ?_
    refine SPO_p rfl (y_move rfl) rfl ?_
    refine SPO_p rfl (y_move rfl) rfl ?_
    refine SPO_p rfl (y_nil rfl) rfl ?_
    refine SPO_p rfl (y_fa fld_331_2 rfl) rfl ?_
    refine SPO_p rfl (y_fa fld_321_1 rfl) rfl ?_
    refine SPO_h rfl (y_load Tryz.isAgg3 rfl (by repeat (first | exact (hM.frF hf hg hq rfl) | apply Cell.tail))) rfl ?_
    refine SPO_h rfl (y_load Tryz.isAgg5 rfl (by repeat (first | exact Cell.amid hpre rfl | exact Cell.head rfl | apply Cell.tail))) rfl ?_
    refine SPO_p rfl (y_conv Tryz.underlying5 Tryz.underlying3 rfl (wrap_i64 (by omega) (by omega))) rfl ?_
    refine SPO_p rfl (y_add rfl rfl (by omega)) rfl ?_
    obtain ⟨c10, m1, hcap, hU⟩ := bnd2 hU
    refine SPO_z (k := 0) rfl rfl (SP1_call (vm_capture b ph hh hcap _ hM) Tryz.call304 rfl rfl (by repeat (first | exact Part.nil _ | (apply Part.cons; with_reducible (first | exact P0 | exact P1 | exact P2 | exact P3 | exact P4 | exact P5 | exact P6 | exact P7 | exact P8 | exact P9 | exact P10 | exact P11 | exact P12 | exact P13 | exact P14 | exact P15 | exact P16 | exact P17 | exact P18 | exact P19 | exact P20 | exact P21 | exact P22 | exact P23)) | (apply Part.flat; simp only [List.cons_append, List.nil_append]) | (apply Part.cons; (first | exact P0 | exact P1 | exact P2 | exact P3 | exact P4 | exact P5 | exact P6 | exact P7 | exact P8 | exact P9 | exact P10 | exact P11 | exact P12 | exact P13 | exact P14 | exact P15 | exact P16 | exact P17 | exact P18 | exact P19 | exact P20 | exact P21 | exact P22 | exact P23)) | (apply Part.nilc))) ?_)
    rintro v post H' ⟨rfl, sg10, hM, rfl⟩ hH
    try simp only [List.cons_append, List.nil_append] at hH
    subst hH
    refine SPO_p rfl (y_assign rfl) rfl ?_
    refine SPO_nil ?_
    refine thenP_n ?_
    have hul9 : m1.vs.upix.length < 1000000 := Decidable.byContradiction fun q => by rw [if_neg q] at hU; cases hU
    rw [if_pos hul9] at hU
    have hpg2 : m1.pg = m.pg := by rw [captureM_pg hcap]; exact hpg
    obtain ⟨la, ua, ea, xa, lc, uc, ec, xc, r, su, r2, rfl, hups, hputU⟩ := hM.opnU
    refine SP_openAt [blk b.vb 115 [pt b.nb, pt b.tb, .slice ph.pa m1.pg.protos.length ph.pc, .slice ph.da m1.pg.descs.length ph.dc, .slice ph.ka m1.pg.consts.length ph.kc, .slice ph.ca m1.pg.code.length ph.cc, .slice la m1.vs.clos.length lc, .slice ua m1.vs.upix.length uc, .slice ea m1.vs.cells.length ec, .slice (some ⟨b.thb, 0, none⟩) m1.vs.threads.length 5, I m1.vs.fuel, .slice xa m1.vs.out.length xc, I m1.ended], r, su, r2] (by first | exact P0 | exact P1 | exact P2 | exact P3 | exact P4 | exact P5 | exact P6 | exact P7 | exact P8 | exact P9 | exact P10 | exact P11 | exact P12 | exact P13 | exact P14 | exact P15 | exact P16 | exact P17 | exact P18 | exact P19 | exact P20 | exact P21 | exact P22 | exact P23) ?_
    simp only [List.cons_append, List.nil_append]
    refine SP_region ?_
    refine SPL_y (y_move rfl) rfl ?_
    refine SPL_y (y_move rfl) rfl ?_
    refine SPL_y (y_nil rfl) rfl ?_
    refine SPL_y (y_fa fld_115_7 rfl) rfl ?_
    refine SPL_y (y_load Tryz.isAgg112 rfl (by repeat (first | exact Cell.amid hpre rfl | exact Cell.head rfl | apply Cell.tail))) rfl ?_
    refine SPL_y (y_move rfl) rfl ?_
    refine SPL_one rfl (SP1_slice1 el_112 rfl rfl rfl rfl rfl ?_)
    intro b99
    refine SPL_one rfl (SP1_append el_112 (.inl Tryz.underlying112) rfl rfl hups (by first | exact P0 | exact P1 | exact P2 | exact P3 | exact P4 | exact P5 | exact P6 | exact P7 | exact P8 | exact P9 | exact P10 | exact P11 | exact P12 | exact P13 | exact P14 | exact P15 | exact P16 | exact P17 | exact P18 | exact P19 | exact P20 | exact P21 | exact P22 | exact P23) (Src.of (by repeat (first | exact Cells.all _ | exact Cells.amid hpre rfl (by decide) | exact Cells.head rfl | apply Cells.tail)) (by rfl)) (by rfl) (by omega) rfl ?_)
    intro ua1 uc1 su1 hA1
    refine SPL_y (y_nil rfl) rfl ?_
    refine SPL_y (y_fa fld_115_7 rfl) rfl ?_
    refine SPL_one rfl (SP1_store Tryz.sizeOf112 rfl rfl rfl (by first | exact U0 | exact U1 | exact U2 | exact U3 | exact U4 | exact U5 | exact U6 | exact U7 | exact U8 | exact U9 | exact U10 | exact U11 | exact U12 | exact U13 | exact U14 | exact U15 | exact U16 | exact U17 | exact U18 | exact U19 | exact U20 | exact U21 | exact U22 | exact U23) (by rfl) ?_)
    rw [show m1.vs.upix.length + 1 = (m1.vs.upix ++ [c10]).length from by simp] at hA1 ⊢
    rw [show m1.vs.upix.map I ++ [I c10] = (m1.vs.upix ++ [c10]).map I from by simp] at hA1
    have hM2 := hputU (m1.vs.upix ++ [c10]) ua1 uc1 su1 hA1
    refine SPL_nil ?_
    refine inBlockP_n ?_
    refine thenP_n ?_
    refine SP_region ?_
    refine SPL_y (y_add rfl rfl (by omega)) rfl ?_
    refine SPL_y (y_move rfl) rfl ?_
    refine SPL_nil ?_
    refine thenP_n ?_
    exact Again.intro ((j + 1, { m1 with vs := { m1.vs with upix := m1.vs.upix ++ [c10] } }, List.flatten [blk b.vb 115 [pt b.nb, pt b.tb, .slice ph.pa m1.pg.protos.length ph.pc, .slice ph.da m1.pg.descs.length ph.dc, .slice ph.ka m1.pg.consts.length ph.kc, .slice ph.ca m1.pg.code.length ph.cc, .slice la m1.vs.clos.length lc, .slice ua1 (m1.vs.upix ++ [c10]).length uc1, .slice ea m1.vs.cells.length ec, .slice (some ⟨b.thb, 0, none⟩) m1.vs.threads.length 5, I m1.vs.fuel, .slice xa m1.vs.out.length xc, I m1.ended], r, su1, r2])) (⟨hM2, hU, hpg2, by dsimp only; omega⟩) (by dsimp only; omega) (by repeat (first | exact Sub.nil _ | refine Sub.cons rfl ?_)) (by repeat (first | exact Part.nil _ | (apply Part.cons; with_reducible (first | exact P0 | exact P1 | exact P2 | exact P3 | exact P4 | exact P5 | exact P6 | exact P7 | exact P8 | exact P9 | exact P10 | exact P11 | exact P12 | exact P13 | exact P14 | exact P15 | exact P16 | exact P17 | exact P18 | exact P19 | exact P20 | exact P21 | exact P22 | exact P23)) | (apply Part.flat; simp only [List.cons_append, List.nil_append]) | (apply Part.cons; (first | exact P0 | exact P1 | exact P2 | exact P3 | exact P4 | exact P5 | exact P6 | exact P7 | exact P8 | exact P9 | exact P10 | exact P11 | exact P12 | exact P13 | exact P14 | exact P15 | exact P16 | exact P17 | exact P18 | exact P19 | exact P20 | exact P21 | exact P22 | exact P23)) | (apply Part.nilc)))
  intro h9_2
  refine SPL_nil ?_
  refine thenP_n ?_
  refine SP_cond_f rfl ?_
  rw [if_neg h9_2] at hU
  obtain ⟨c, hc, hU⟩ := bnd1 hU
  have hbr : (0 ≤ c.up ∧ c.up ≤ 1000000000) ∧ 0 ≤ d.2 ∧ d.2 ≤ 255 := Decidable.byContradiction fun q => by rw [if_neg q] at hU; cases hU
  rw [if_pos hbr] at hU
  obtain ⟨u11, hu, hU⟩ := bnd1 hU
  have hfv0 := hfv
  obtain ⟨g, q0, hg, hq, rfl⟩ := hfv0
  obtain ⟨hcb, hcl, _, _, _⟩ := getI_some hc
  obtain ⟨hub, hul, _, _, _⟩ := getI_some hu
  obtain ⟨lq, lc1, hcl1, hcl2⟩ := hM.clo hc
  obtain ⟨uq, uc1, hux1, hux2⟩ := hM.upx hu
  refine SP_draw 999 [(0, 0), (1, 0), (2, 0), (4, 0), (5, 0), (6, 0), (8, 0), (9, 0), (10, 0), (15, 0), (3, 1), (7, 1), (11, 1), (12, 0), (13, 0), (14, 1), (16, 1), (17, 0), (18, 0), (19, 0), (20, 1), (21, 0)] mixed (by kernel_rfl) (fun _ _ _ _ _ h => h) (Part.refl _) ?_
  refine SPO_p rfl (y_move rfl) rfl ?_
  refine SPO_p rfl (y_nil rfl) rfl ?_
  refine SPO_p rfl (y_fa fld_115_7 rfl) rfl ?_
  refine SPO_p rfl (y_move rfl) rfl ?_
  refine SPO_p rfl (y_nil rfl) rfl ?_
  refine SPO_p rfl (y_fa fld_115_6 rfl) rfl ?_
  refine SPO_p rfl (y_move rfl) rfl ?_
  refine SPO_p rfl (y_nil rfl) rfl ?_
  refine SPO_p rfl (y_fa fld_331_0 rfl) rfl ?_
  refine SPO_p rfl (y_fa fld_321_1 rfl) rfl ?_
  refine SPO_h rfl (y_load Tryz.isAgg112 rfl (by repeat (first | exact (hux1 _) | apply Cell.tail))) rfl ?_
  refine SPO_h rfl (y_load Tryz.isAgg111 rfl (by repeat (first | exact (hcl1 _) | apply Cell.tail))) rfl ?_
  refine SPO_h rfl (y_load Tryz.isAgg3 rfl (by repeat (first | exact (hM.frF hf hg hq rfl) | apply Cell.tail))) rfl ?_
  refine SPO_p rfl (y_ia Tryz.underlying111 Tryz.sizeOf181 rfl rfl (by omega)) rfl ?_
  refine SPO_p rfl (y_fa fld_181_1 rfl) rfl ?_
  refine SPO_h rfl (y_load Tryz.isAgg3 rfl (by repeat (first | exact ((hcl2 _).cell rfl) | apply Cell.tail))) rfl ?_
  refine SPO_h rfl (y_load Tryz.isAgg5 rfl (by repeat (first | exact Cell.amid hpre rfl | exact Cell.head rfl | apply Cell.tail))) rfl ?_
  refine SPO_p rfl (y_conv Tryz.underlying5 Tryz.underlying3 rfl (wrap_i64 (by omega) (by omega))) rfl ?_
  refine SPO_p rfl (y_add rfl rfl (by omega)) rfl ?_
  refine SPO_p rfl (y_ia Tryz.underlying112 Tryz.sizeOf3 rfl rfl (by omega)) rfl ?_
  refine SPO_h rfl (y_load Tryz.isAgg3 rfl (by repeat (first | exact (hux2 _) | apply Cell.tail))) rfl ?_
  refine SPO_p rfl (y_assign rfl) rfl ?_
  refine SPO_nil ?_
  refine thenP_n ?_
  have hul9 : mj.vs.upix.length < 1000000 := Decidable.byContradiction fun q => by rw [if_neg q] at hU; cases hU
  rw [if_pos hul9] at hU
  have hpg2 := hpg
  obtain ⟨la, ua, ea, xa, lc, uc, ec, xc, r, su, r2, rfl, hups, hputU⟩ := hM.opnU
  refine SP_openAt [blk b.vb 115 [pt b.nb, pt b.tb, .slice ph.pa mj.pg.protos.length ph.pc, .slice ph.da mj.pg.descs.length ph.dc, .slice ph.ka mj.pg.consts.length ph.kc, .slice ph.ca mj.pg.code.length ph.cc, .slice la mj.vs.clos.length lc, .slice ua mj.vs.upix.length uc, .slice ea mj.vs.cells.length ec, .slice (some ⟨b.thb, 0, none⟩) mj.vs.threads.length 5, I mj.vs.fuel, .slice xa mj.vs.out.length xc, I mj.ended], r, su, r2] (by first | exact P0 | exact P1 | exact P2 | exact P3 | exact P4 | exact P5 | exact P6 | exact P7 | exact P8 | exact P9 | exact P10 | exact P11 | exact P12 | exact P13 | exact P14 | exact P15 | exact P16 | exact P17 | exact P18 | exact P19 | exact P20 | exact P21 | exact P22 | exact P23) ?_
  simp only [List.cons_append, List.nil_append]
  refine SP_region ?_
  refine SPL_y (y_move rfl) rfl ?_
  refine SPL_y (y_move rfl) rfl ?_
  refine SPL_y (y_nil rfl) rfl ?_
  refine SPL_y (y_fa fld_115_7 rfl) rfl ?_
  refine SPL_y (y_load Tryz.isAgg112 rfl (by repeat (first | exact Cell.amid hpre rfl | exact Cell.head rfl | apply Cell.tail))) rfl ?_
  refine SPL_y (y_move rfl) rfl ?_
  refine SPL_one rfl (SP1_slice1 el_112 rfl rfl rfl rfl rfl ?_)
  intro b99
  refine SPL_one rfl (SP1_append el_112 (.inl Tryz.underlying112) rfl rfl hups (by first | exact P0 | exact P1 | exact P2 | exact P3 | exact P4 | exact P5 | exact P6 | exact P7 | exact P8 | exact P9 | exact P10 | exact P11 | exact P12 | exact P13 | exact P14 | exact P15 | exact P16 | exact P17 | exact P18 | exact P19 | exact P20 | exact P21 | exact P22 | exact P23) (Src.of (by repeat (first | exact Cells.all _ | exact Cells.amid hpre rfl (by decide) | exact Cells.head rfl | apply Cells.tail)) (by rfl)) (by rfl) (by omega) rfl ?_)
  intro ua1 uc1 su1 hA1
  refine SPL_y (y_nil rfl) rfl ?_
  refine SPL_y (y_fa fld_115_7 rfl) rfl ?_
  refine SPL_one rfl (SP1_store Tryz.sizeOf112 rfl rfl rfl (by first | exact U0 | exact U1 | exact U2 | exact U3 | exact U4 | exact U5 | exact U6 | exact U7 | exact U8 | exact U9 | exact U10 | exact U11 | exact U12 | exact U13 | exact U14 | exact U15 | exact U16 | exact U17 | exact U18 | exact U19 | exact U20 | exact U21 | exact U22 | exact U23) (by rfl) ?_)
  rw [show mj.vs.upix.length + 1 = (mj.vs.upix ++ [u11]).length from by simp] at hA1 ⊢
  rw [show mj.vs.upix.map I ++ [I u11] = (mj.vs.upix ++ [u11]).map I from by simp] at hA1
  have hM2 := hputU (mj.vs.upix ++ [u11]) ua1 uc1 su1 hA1
  refine SPL_nil ?_
  refine inBlockP_n ?_
  refine thenP_n ?_
  refine SP_region ?_
  refine SPL_y (y_add rfl rfl (by omega)) rfl ?_
  refine SPL_y (y_move rfl) rfl ?_
  refine SPL_nil ?_
  refine thenP_n ?_
  exact Again.intro ((j + 1, { mj with vs := { mj.vs with upix := mj.vs.upix ++ [u11] } }, List.flatten [blk b.vb 115 [pt b.nb, pt b.tb, .slice ph.pa mj.pg.protos.length ph.pc, .slice ph.da mj.pg.descs.length ph.dc, .slice ph.ka mj.pg.consts.length ph.kc, .slice ph.ca mj.pg.code.length ph.cc, .slice la mj.vs.clos.length lc, .slice ua1 (mj.vs.upix ++ [u11]).length uc1, .slice ea mj.vs.cells.length ec, .slice (some ⟨b.thb, 0, none⟩) mj.vs.threads.length 5, I mj.vs.fuel, .slice xa mj.vs.out.length xc, I mj.ended], r, su1, r2])) (⟨hM2, hU, hpg2, by dsimp only; omega⟩) (by dsimp only; omega) (by repeat (first | exact Sub.nil _ | refine Sub.cons rfl ?_)) (by repeat (first | exact Part.nil _ | (apply Part.cons; with_reducible (first | exact P0 | exact P1 | exact P2 | exact P3 | exact P4 | exact P5 | exact P6 | exact P7 | exact P8 | exact P9 | exact P10 | exact P11 | exact P12 | exact P13 | exact P14 | exact P15 | exact P16 | exact P17 | exact P18 | exact P19 | exact P20 | exact P21 | exact P22 | exact P23)) | (apply Part.flat; simp only [List.cons_append, List.nil_append]) | (apply Part.cons; (first | exact P0 | exact P1 | exact P2 | exact P3 | exact P4 | exact P5 | exact P6 | exact P7 | exact P8 | exact P9 | exact P10 | exact P11 | exact P12 | exact P13 | exact P14 | exact P15 | exact P16 | exact P17 | exact P18 | exact P19 | exact P20 | exact P21 | exact P22 | exact P23)) | (apply Part.nilc)))

end Go.Sl
