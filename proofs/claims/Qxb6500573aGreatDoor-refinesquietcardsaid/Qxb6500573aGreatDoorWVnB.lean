/- Walks: package vm, Load (made by program out of short notes) -/
import Derived.Test.Qxb6500573aGreatDoorWVn
namespace Go.Sl
open Go Go.Wl Go.Proofs
set_option maxRecDepth 100000
set_option linter.unusedVariables false
set_option linter.unusedSimpArgs false
set_option maxHeartbeats 4000000 in
theorem vm_Load (b : VB) (ph : PH) (hh : List TH) {m m' : VM} {l : List UInt8} {fuel : Int} (hP : loadM l fuel m = some m') (seg : Seg) (hM : isVM b ph hh m seg) : Spec Tryz.prog 53 [pt b.vb, S l, I fuel] [seg] (Ret fun v H => v = I 0 ∧ ∃ ph' seg', isVM b ph' hh m' seg' ∧ H = [seg']) := by
  unfold loadM at hP
  have hts : m.vs.tabs.length ≤ 1000 := Decidable.byContradiction fun q => by rw [if_neg q] at hP; cases hP
  rw [if_pos hts] at hP
  have hll : l.length ≤ 32768 := Decidable.byContradiction fun q => by rw [if_neg q] at hP; cases hP
  rw [if_pos hll] at hP
  obtain ⟨g, hg, hP⟩ := bnd1 hP
  obtain ⟨ts, hbl, hP⟩ := bnd1 hP
  injection hP with hP
  subst hP
  refine Spec_enter Tryz.func53 rfl Tryz.ntmps53 rfl ?_
  show SP _ _ _ _ _ [(0, _), (1, _), (2, _)] _
  refine SP_seq ?_
  refine SP_region ?_
  refine SPL_y (y_assign rfl) rfl ?_
  refine SPL_nil ?_
  refine thenP_n ?_
  refine SP_seq ?_
  refine SP_region ?_
  refine SPL_y (y_move rfl) rfl ?_
  refine SPL_one rfl (SP1_call (vm_wipe b ph hh 21 _ hM) Tryz.call76 rfl rfl (by repeat (first | exact Part.nil _ | (apply Part.cons; with_reducible (first | exact P0 | exact P1 | exact P2 | exact P3 | exact P4 | exact P5 | exact P6 | exact P7 | exact P8 | exact P9 | exact P10 | exact P11 | exact P12 | exact P13 | exact P14 | exact P15 | exact P16 | exact P17 | exact P18 | exact P19 | exact P20 | exact P21 | exact P22 | exact P23)) | (apply Part.flat; simp only [List.cons_append, List.nil_append]) | (apply Part.cons; (first | exact P0 | exact P1 | exact P2 | exact P3 | exact P4 | exact P5 | exact P6 | exact P7 | exact P8 | exact P9 | exact P10 | exact P11 | exact P12 | exact P13 | exact P14 | exact P15 | exact P16 | exact P17 | exact P18 | exact P19 | exact P20 | exact P21 | exact P22 | exact P23)) | (apply Part.nilc))) ?_)
  rintro v post H' ⟨rfl, sg1, hM1, rfl⟩ hH
  try simp only [List.cons_append, List.nil_append] at hH
  subst hH
  refine SPL_nil ?_
  refine thenP_n ?_
  refine SP_seq ?_
  obtain ⟨m1, hm1⟩ : ∃ m1, m1 = wipeM 21 m := ⟨_, rfl⟩
  rw [← hm1] at hM1
  obtain ⟨la, ua, ea, xa, lc, uc, ec, xc, s0, sx, s2, rfl, hx, hM3⟩ := hM1.opnOF
  refine SP_openAt [blk b.vb 115 [pt b.nb, pt b.tb, .slice ph.pa m1.pg.protos.length ph.pc, .slice ph.da m1.pg.descs.length ph.dc, .slice ph.ka m1.pg.consts.length ph.kc, .slice ph.ca m1.pg.code.length ph.cc, .slice la m1.vs.clos.length lc, .slice ua m1.vs.upix.length uc, .slice ea m1.vs.cells.length ec, .slice (some ⟨b.thb, 0, none⟩) m1.vs.threads.length 5, I m1.vs.fuel, .slice xa m1.vs.out.length xc, I m1.ended], s0, sx, s2] (by first | exact P0 | exact P1 | exact P2 | exact P3 | exact P4 | exact P5 | exact P6 | exact P7 | exact P8 | exact P9 | exact P10 | exact P11 | exact P12 | exact P13 | exact P14 | exact P15 | exact P16 | exact P17 | exact P18 | exact P19 | exact P20 | exact P21 | exact P22 | exact P23) ?_
  simp only [List.cons_append, List.nil_append]
  refine SP_region ?_
  refine SPL_y (y_move rfl) rfl ?_
  refine SPL_y (y_move rfl) rfl ?_
  refine SPL_y (y_nil rfl) rfl ?_
  refine SPL_y (y_fa fld_115_11 rfl) rfl ?_
  refine SPL_y (y_load Tryz.isAgg67 rfl (by repeat (first | exact Cell.amid hpre rfl | exact Cell.head rfl | apply Cell.tail))) rfl ?_
  refine SPL_y (y_cut hx Tryz.underlying67 Tryz.sizeOf5 rfl rfl (by omega)) rfl ?_
  refine SPL_y (y_nil rfl) rfl ?_
  refine SPL_y (y_fa fld_115_11 rfl) rfl ?_
  refine SPL_one rfl (SP1_store Tryz.sizeOf67 rfl rfl rfl (by first | exact U0 | exact U1 | exact U2 | exact U3 | exact U4 | exact U5 | exact U6 | exact U7 | exact U8 | exact U9 | exact U10 | exact U11 | exact U12 | exact U13 | exact U14 | exact U15 | exact U16 | exact U17 | exact U18 | exact U19 | exact U20 | exact U21 | exact U22 | exact U23) (by rfl) ?_)
  refine SPL_nil ?_
  refine thenP_n ?_
  refine SP_seq ?_
  refine SP_region ?_
  refine SPL_y (y_move rfl) rfl ?_
  refine SPL_y (y_nil rfl) rfl ?_
  refine SPL_y (y_fa fld_115_10 rfl) rfl ?_
  refine SPL_one rfl (SP1_store Tryz.sizeOf3 rfl rfl rfl (by first | exact U0 | exact U1 | exact U2 | exact U3 | exact U4 | exact U5 | exact U6 | exact U7 | exact U8 | exact U9 | exact U10 | exact U11 | exact U12 | exact U13 | exact U14 | exact U15 | exact U16 | exact U17 | exact U18 | exact U19 | exact U20 | exact U21 | exact U22 | exact U23) (by rfl) ?_)
  refine SPL_nil ?_
  refine thenP_n ?_
  refine SP_seq ?_
  refine SP_part (H' := [List.flatten [blk b.vb 115 [pt b.nb, pt b.tb, .slice ph.pa m1.pg.protos.length ph.pc, .slice ph.da m1.pg.descs.length ph.dc, .slice ph.ka m1.pg.consts.length ph.kc, .slice ph.ca m1.pg.code.length ph.cc, .slice la m1.vs.clos.length lc, .slice ua m1.vs.upix.length uc, .slice ea m1.vs.cells.length ec, .slice (some ⟨b.thb, 0, none⟩) m1.vs.threads.length 5, I 0, .slice xa 0 xc, I m1.ended], s0, sx, s2]]) (by repeat (first | exact Part.nil _ | (apply Part.cons; with_reducible (first | exact P0 | exact P1 | exact P2 | exact P3 | exact P4 | exact P5 | exact P6 | exact P7 | exact P8 | exact P9 | exact P10 | exact P11 | exact P12 | exact P13 | exact P14 | exact P15 | exact P16 | exact P17 | exact P18 | exact P19 | exact P20 | exact P21 | exact P22 | exact P23)) | (apply Part.flat; simp only [List.cons_append, List.nil_append]) | (apply Part.cons; (first | exact P0 | exact P1 | exact P2 | exact P3 | exact P4 | exact P5 | exact P6 | exact P7 | exact P8 | exact P9 | exact P10 | exact P11 | exact P12 | exact P13 | exact P14 | exact P15 | exact P16 | exact P17 | exact P18 | exact P19 | exact P20 | exact P21 | exact P22 | exact P23)) | (apply Part.nilc))) ?_
  obtain ⟨sg3, hsg3⟩ : ∃ s, s = List.flatten [blk b.vb 115 [pt b.nb, pt b.tb, .slice ph.pa m1.pg.protos.length ph.pc, .slice ph.da m1.pg.descs.length ph.dc, .slice ph.ka m1.pg.consts.length ph.kc, .slice ph.ca m1.pg.code.length ph.cc, .slice la m1.vs.clos.length lc, .slice ua m1.vs.upix.length uc, .slice ea m1.vs.cells.length ec, .slice (some ⟨b.thb, 0, none⟩) m1.vs.threads.length 5, I 0, .slice xa 0 xc, I m1.ended], s0, sx, s2] := ⟨_, rfl⟩
  rw [← hsg3] at hM3 ⊢
  have htc : ∀ H : Hp, Cell (sg3 :: H) b.vb (0 + 1) (pt b.tb) := fun H => hM3.tabs
  obtain ⟨r, stb, r2, hseg, htb, hputB⟩ := hM3.opnB
  subst hseg
  have htc2 : ∀ H : Hp, Cell (r :: stb :: r2 :: H) b.vb (0 + 1) (pt b.tb) := fun H => Cell.opened (pre := [r, stb, r2]) (htc [])
  refine SP_openAt [r, stb, r2] (by first | exact P0 | exact P1 | exact P2 | exact P3 | exact P4 | exact P5 | exact P6 | exact P7 | exact P8 | exact P9 | exact P10 | exact P11 | exact P12 | exact P13 | exact P14 | exact P15 | exact P16 | exact P17 | exact P18 | exact P19 | exact P20 | exact P21 | exact P22 | exact P23) ?_
  simp only [List.cons_append, List.nil_append]
  have hts : m1.vs.tabs.length ≤ 1000 := by rw [hm1]; exact hts
  refine SP_region ?_
  refine SPL_y (y_move rfl) rfl ?_
  refine SPL_y (y_nil rfl) rfl ?_
  refine SPL_y (y_fa fld_115_1 rfl) rfl ?_
  refine SPL_y (y_load Tryz.isAgg54 rfl (by repeat (first | exact (htc2 _) | apply Cell.tail))) rfl ?_
  refine SPL_one rfl (SP1_call (tabs_Reset b.tb b.nb _ stb htb hts) Tryz.call77 rfl rfl (by repeat (first | exact Part.nil _ | (apply Part.cons; with_reducible (first | exact P0 | exact P1 | exact P2 | exact P3 | exact P4 | exact P5 | exact P6 | exact P7 | exact P8 | exact P9 | exact P10 | exact P11 | exact P12 | exact P13 | exact P14 | exact P15 | exact P16 | exact P17 | exact P18 | exact P19 | exact P20 | exact P21 | exact P22 | exact P23)) | (apply Part.flat; simp only [List.cons_append, List.nil_append]) | (apply Part.cons; (first | exact P0 | exact P1 | exact P2 | exact P3 | exact P4 | exact P5 | exact P6 | exact P7 | exact P8 | exact P9 | exact P10 | exact P11 | exact P12 | exact P13 | exact P14 | exact P15 | exact P16 | exact P17 | exact P18 | exact P19 | exact P20 | exact P21 | exact P22 | exact P23)) | (apply Part.nilc))) ?_)
  rintro v post H' ⟨rfl, stb1, htb1, rfl⟩ hH
  try simp only [List.cons_append, List.nil_append] at hH
  subst hH
  refine SPL_nil ?_
  refine thenP_n ?_
  refine SP_seq ?_
  refine SP_seq ?_
  have hM5 := hputB [] stb1 htb1
  subst hm1
  refine SP_part (H' := [List.flatten [r, stb1, r2]]) (by repeat (first | exact Part.nil _ | (apply Part.cons; with_reducible (first | exact P0 | exact P1 | exact P2 | exact P3 | exact P4 | exact P5 | exact P6 | exact P7 | exact P8 | exact P9 | exact P10 | exact P11 | exact P12 | exact P13 | exact P14 | exact P15 | exact P16 | exact P17 | exact P18 | exact P19 | exact P20 | exact P21 | exact P22 | exact P23)) | (apply Part.flat; simp only [List.cons_append, List.nil_append]) | (apply Part.cons; (first | exact P0 | exact P1 | exact P2 | exact P3 | exact P4 | exact P5 | exact P6 | exact P7 | exact P8 | exact P9 | exact P10 | exact P11 | exact P12 | exact P13 | exact P14 | exact P15 | exact P16 | exact P17 | exact P18 | exact P19 | exact P20 | exact P21 | exact P22 | exact P23)) | (apply Part.nilc))) ?_
  refine SP_region ?_
  refine SPL_y (y_move rfl) rfl ?_
  refine SPL_y (y_len_s Tryz.underlying9 rfl) rfl ?_
  refine SPL_if (y_gtr rfl rfl) rfl ?_ ?_
  · intro h5_2
    omega
  intro h5_2
  refine SPL_nil ?_
  refine thenP_n ?_
  refine SP_cond_f rfl ?_
  refine SP_skip ?_
  refine thenP_n ?_
  refine SP_seq ?_
  refine SP_region ?_
  refine SPL_y (y_move rfl) rfl ?_
  refine SPL_y (y_move rfl) rfl ?_
  refine SPL_one rfl (SP1_call (vm_decode b ph hh (m := ld0 m) hg _ hM5) Tryz.call78 rfl rfl (by repeat (first | exact Part.nil _ | (apply Part.cons; with_reducible (first | exact P0 | exact P1 | exact P2 | exact P3 | exact P4 | exact P5 | exact P6 | exact P7 | exact P8 | exact P9 | exact P10 | exact P11 | exact P12 | exact P13 | exact P14 | exact P15 | exact P16 | exact P17 | exact P18 | exact P19 | exact P20 | exact P21 | exact P22 | exact P23)) | (apply Part.flat; simp only [List.cons_append, List.nil_append]) | (apply Part.cons; (first | exact P0 | exact P1 | exact P2 | exact P3 | exact P4 | exact P5 | exact P6 | exact P7 | exact P8 | exact P9 | exact P10 | exact P11 | exact P12 | exact P13 | exact P14 | exact P15 | exact P16 | exact P17 | exact P18 | exact P19 | exact P20 | exact P21 | exact P22 | exact P23)) | (apply Part.nilc))) ?_)
  rintro v post H' ⟨rfl, ph7, sg7, hM7, rfl⟩ hH
  try simp only [List.cons_append, List.nil_append] at hH
  subst hH
  refine SPL_y (y_assign rfl) rfl ?_
  refine SPL_nil ?_
  refine thenP_n ?_
  refine SP_seq ?_
  refine SP_seq ?_
  refine SP_region ?_
  refine SPL_y (y_move rfl) rfl ?_
  refine SPL_y (y_not rfl) rfl ?_
  refine SPL_nil ?_
  refine thenP_n ?_
  refine SP_cond_f rfl ?_
  refine SP_skip ?_
  refine thenP_n ?_
  refine SP_seq ?_
  have htc : ∀ H : Hp, Cell (sg7 :: H) b.vb (0 + 1) (pt b.tb) := fun H => hM7.tabs
  obtain ⟨r, stb, r2, hseg, htb, hputB⟩ := hM7.opnB
  subst hseg
  have htc2 : ∀ H : Hp, Cell (r :: stb :: r2 :: H) b.vb (0 + 1) (pt b.tb) := fun H => Cell.opened (pre := [r, stb, r2]) (htc [])
  refine SP_openAt [r, stb, r2] (by first | exact P0 | exact P1 | exact P2 | exact P3 | exact P4 | exact P5 | exact P6 | exact P7 | exact P8 | exact P9 | exact P10 | exact P11 | exact P12 | exact P13 | exact P14 | exact P15 | exact P16 | exact P17 | exact P18 | exact P19 | exact P20 | exact P21 | exact P22 | exact P23) ?_
  simp only [List.cons_append, List.nil_append]
  refine SP_region ?_
  refine SPL_y (y_move rfl) rfl ?_
  refine SPL_y (y_nil rfl) rfl ?_
  refine SPL_y (y_fa fld_115_1 rfl) rfl ?_
  refine SPL_y (y_load Tryz.isAgg54 rfl (by repeat (first | exact (htc2 _) | apply Cell.tail))) rfl ?_
  refine SPL_one rfl (SP1_call (tabs_Make b.tb b.nb _ stb htb) Tryz.call79 rfl rfl (by repeat (first | exact Part.nil _ | (apply Part.cons; with_reducible (first | exact P0 | exact P1 | exact P2 | exact P3 | exact P4 | exact P5 | exact P6 | exact P7 | exact P8 | exact P9 | exact P10 | exact P11 | exact P12 | exact P13 | exact P14 | exact P15 | exact P16 | exact P17 | exact P18 | exact P19 | exact P20 | exact P21 | exact P22 | exact P23)) | (apply Part.flat; simp only [List.cons_append, List.nil_append]) | (apply Part.cons; (first | exact P0 | exact P1 | exact P2 | exact P3 | exact P4 | exact P5 | exact P6 | exact P7 | exact P8 | exact P9 | exact P10 | exact P11 | exact P12 | exact P13 | exact P14 | exact P15 | exact P16 | exact P17 | exact P18 | exact P19 | exact P20 | exact P21 | exact P22 | exact P23)) | (apply Part.nilc))) ?_)
  rintro v post H' ⟨stb1, rfl, htb1, rfl⟩ hH
  try simp only [List.cons_append, List.nil_append] at hH
  subst hH
  refine SPL_nil ?_
  refine thenP_n ?_
  refine SP_seq ?_
  refine SP_seq ?_
  have hM11 := hputB [Tb.empty] stb1 htb1
  refine SP_part (H' := [List.flatten [r, stb1, r2]]) (by repeat (first | exact Part.nil _ | (apply Part.cons; with_reducible (first | exact P0 | exact P1 | exact P2 | exact P3 | exact P4 | exact P5 | exact P6 | exact P7 | exact P8 | exact P9 | exact P10 | exact P11 | exact P12 | exact P13 | exact P14 | exact P15 | exact P16 | exact P17 | exact P18 | exact P19 | exact P20 | exact P21 | exact P22 | exact P23)) | (apply Part.flat; simp only [List.cons_append, List.nil_append]) | (apply Part.cons; (first | exact P0 | exact P1 | exact P2 | exact P3 | exact P4 | exact P5 | exact P6 | exact P7 | exact P8 | exact P9 | exact P10 | exact P11 | exact P12 | exact P13 | exact P14 | exact P15 | exact P16 | exact P17 | exact P18 | exact P19 | exact P20 | exact P21 | exact P22 | exact P23)) | (apply Part.nilc))) ?_
  obtain ⟨sg11, hsg11⟩ : ∃ s, s = List.flatten [r, stb1, r2] := ⟨_, rfl⟩
  rw [← hsg11] at hM11 ⊢
  refine SP_region ?_
  refine SPL_y (y_assign rfl) rfl ?_
  refine SPL_nil ?_
  refine thenP_n ?_
  refine SP_block ?_
  refine SP_loop (G := Nat × List Tb × Seg) (fun g => g.1) (fun g => [(0, pt b.vb), (2, I fuel), (8, I ((12 - g.1 : Nat) : Int))]) (fun g => [g.2.2]) (fun q => q.1 ≤ 11 ∧ isVM b ph7 hh ⟨g, ⟨[], [], [], [], 0, [], q.2.1⟩, 21⟩ q.2.2 ∧ bltL q.1 (12 - q.1) q.2.1 = some ts ∧ (0 < q.2.1.length ∧ q.2.1.length ≤ 1000)) ((11, [Tb.empty], sg11)) (⟨Nat.le_refl _, hM11, hbl, by dsimp only [List.length_cons, List.length_nil]; omega⟩) (by repeat (first | exact Sub.nil _ | refine Sub.cons rfl ?_)) (by repeat (first | exact Part.nil _ | (apply Part.cons; with_reducible (first | exact P0 | exact P1 | exact P2 | exact P3 | exact P4 | exact P5 | exact P6 | exact P7 | exact P8 | exact P9 | exact P10 | exact P11 | exact P12 | exact P13 | exact P14 | exact P15 | exact P16 | exact P17 | exact P18 | exact P19 | exact P20 | exact P21 | exact P22 | exact P23)) | (apply Part.flat; simp only [List.cons_append, List.nil_append]) | (apply Part.cons; (first | exact P0 | exact P1 | exact P2 | exact P3 | exact P4 | exact P5 | exact P6 | exact P7 | exact P8 | exact P9 | exact P10 | exact P11 | exact P12 | exact P13 | exact P14 | exact P15 | exact P16 | exact P17 | exact P18 | exact P19 | exact P20 | exact P21 | exact P22 | exact P23)) | (apply Part.nilc))) ?_
  rintro ⟨n13, t13, sg13⟩ ⟨hn13, hM13, hd13, hb13⟩
  dsimp only at hn13 hM13 hd13 hb13
  refine SP_seq ?_
  refine SP_seq ?_
  refine SP_region ?_
  refine SPL_y (y_move rfl) rfl ?_
  refine SPL_if (y_leq rfl rfl) rfl ?_ ?_
  · intro h13_1
    refine SPL_nil ?_
    refine thenP_n ?_
    refine SP_cond_t rfl ?_
    refine SP_skip ?_
    refine thenP_n ?_
    refine SP_seq ?_
    refine SP_block ?_
    refine SP_seq ?_
    obtain ⟨k13, rfl⟩ : ∃ k, n13 = k + 1 := ⟨n13 - 1, by omega⟩
    unfold bltL at hd13
    obtain ⟨ts16, e16, hq16, hd13⟩ := bnd2 hd13
    have hb16 : 0 < ts16.length ∧ ts16.length ≤ 1000 := Decidable.byContradiction fun q => by rw [if_neg q] at hd13; cases hd13
    rw [if_pos hb16] at hd13
    rw [show 12 - (k13 + 1) + 1 = 12 - k13 from by omega] at hd13
    refine SP_region ?_
    refine SPL_y (y_move rfl) rfl ?_
    refine SPL_one rfl (SP1_call (api_BuiltinName ((12 - (k13 + 1) : Nat) : Int)) Tryz.call62 rfl rfl (by repeat (first | exact Part.nil _ | (apply Part.cons; with_reducible (first | exact P0 | exact P1 | exact P2 | exact P3 | exact P4 | exact P5 | exact P6 | exact P7 | exact P8 | exact P9 | exact P10 | exact P11 | exact P12 | exact P13 | exact P14 | exact P15 | exact P16 | exact P17 | exact P18 | exact P19 | exact P20 | exact P21 | exact P22 | exact P23)) | (apply Part.flat; simp only [List.cons_append, List.nil_append]) | (apply Part.cons; (first | exact P0 | exact P1 | exact P2 | exact P3 | exact P4 | exact P5 | exact P6 | exact P7 | exact P8 | exact P9 | exact P10 | exact P11 | exact P12 | exact P13 | exact P14 | exact P15 | exact P16 | exact P17 | exact P18 | exact P19 | exact P20 | exact P21 | exact P22 | exact P23)) | (apply Part.nilc))) ?_)
    rintro v post H' ⟨rfl, rfl⟩ hH
    try simp only [List.cons_append, List.nil_append] at hH
    subst hH
    refine SPL_y (y_assign rfl) rfl ?_
    refine SPL_nil ?_
    refine thenP_n ?_
    have htc : ∀ H : Hp, Cell (sg13 :: H) b.vb (0 + 1) (pt b.tb) := fun H => hM13.tabs
    obtain ⟨r, stb, r2, hseg, htb, hputB⟩ := hM13.opnB
    subst hseg
    have htc2 : ∀ H : Hp, Cell (r :: stb :: r2 :: H) b.vb (0 + 1) (pt b.tb) := fun H => Cell.opened (pre := [r, stb, r2]) (htc [])
    refine SP_openAt [r, stb, r2] (by first | exact P0 | exact P1 | exact P2 | exact P3 | exact P4 | exact P5 | exact P6 | exact P7 | exact P8 | exact P9 | exact P10 | exact P11 | exact P12 | exact P13 | exact P14 | exact P15 | exact P16 | exact P17 | exact P18 | exact P19 | exact P20 | exact P21 | exact P22 | exact P23) ?_
    simp only [List.cons_append, List.nil_append]
    refine SP_region ?_
    refine SPL_y (y_move rfl) rfl ?_
    refine SPL_y (y_nil rfl) rfl ?_
    refine SPL_y (y_fa fld_115_1 rfl) rfl ?_
    refine SPL_y (y_load Tryz.isAgg54 rfl (by repeat (first | exact (htc2 _) | apply Cell.tail))) rfl ?_
    refine SPL_y (y_move rfl) rfl ?_
    refine SPL_y (y_build B42 rfl rfl (by simp only [fillL, List.foldl_cons, List.foldl_nil, List.set_cons_zero, List.set_cons_succ]; exact rfl)) rfl ?_
    refine SPL_y (y_move rfl) rfl ?_
    refine SPL_y (y_conv Tryz.underlying3 Tryz.underlying40 rfl (show IntKind.u64.wrap ((12 - (k13 + 1) : Nat) : Int) = ((12 - (k13 + 1) : Nat) : Int) from wrapU (by omega))) rfl ?_
    refine SPL_y (y_build B42 rfl rfl (by simp only [fillL, List.foldl_cons, List.foldl_nil, List.set_cons_zero, List.set_cons_succ]; exact rfl)) rfl ?_
    refine SPL_one rfl (SP1_call (tabs_Set b.tb b.nb t13 stb htb hb13.2 0 hb13.1 ⟨3, 0, builtinName ((12 - (k13 + 1) : Nat) : Int)⟩ ⟨6, ((12 - (k13 + 1) : Nat) : Int), []⟩ (Int.le_refl 0) _ _ hq16) Tryz.call80 rfl rfl (by repeat (first | exact Part.nil _ | (apply Part.cons; with_reducible (first | exact P0 | exact P1 | exact P2 | exact P3 | exact P4 | exact P5 | exact P6 | exact P7 | exact P8 | exact P9 | exact P10 | exact P11 | exact P12 | exact P13 | exact P14 | exact P15 | exact P16 | exact P17 | exact P18 | exact P19 | exact P20 | exact P21 | exact P22 | exact P23)) | (apply Part.flat; simp only [List.cons_append, List.nil_append]) | (apply Part.cons; (first | exact P0 | exact P1 | exact P2 | exact P3 | exact P4 | exact P5 | exact P6 | exact P7 | exact P8 | exact P9 | exact P10 | exact P11 | exact P12 | exact P13 | exact P14 | exact P15 | exact P16 | exact P17 | exact P18 | exact P19 | exact P20 | exact P21 | exact P22 | exact P23)) | (apply Part.nilc))) ?_)
    rintro v post H' ⟨rfl, stb1, htb1, rfl⟩ hH
    try simp only [List.cons_append, List.nil_append] at hH
    subst hH
    refine SPL_nil ?_
    refine inBlockP_n ?_
    refine thenP_n ?_
    have hM16 := hputB ts16 stb1 htb1
    refine SP_part (H' := [List.flatten [r, stb1, r2]]) (by repeat (first | exact Part.nil _ | (apply Part.cons; with_reducible (first | exact P0 | exact P1 | exact P2 | exact P3 | exact P4 | exact P5 | exact P6 | exact P7 | exact P8 | exact P9 | exact P10 | exact P11 | exact P12 | exact P13 | exact P14 | exact P15 | exact P16 | exact P17 | exact P18 | exact P19 | exact P20 | exact P21 | exact P22 | exact P23)) | (apply Part.flat; simp only [List.cons_append, List.nil_append]) | (apply Part.cons; (first | exact P0 | exact P1 | exact P2 | exact P3 | exact P4 | exact P5 | exact P6 | exact P7 | exact P8 | exact P9 | exact P10 | exact P11 | exact P12 | exact P13 | exact P14 | exact P15 | exact P16 | exact P17 | exact P18 | exact P19 | exact P20 | exact P21 | exact P22 | exact P23)) | (apply Part.nilc))) ?_
    refine SP_region ?_
    refine SPL_y (y_move rfl) rfl ?_
    refine SPL_y (y_addE rfl rfl (c := ((12 - k13 : Nat) : Int)) (by omega) (by omega)) rfl ?_
    refine SPL_y (y_assign rfl) rfl ?_
    refine SPL_nil ?_
    refine thenP_n ?_
    exact Again.intro ((k13, ts16, List.flatten [r, stb1, r2])) (⟨by dsimp only; omega, hM16, hd13, hb16⟩) (by dsimp only; omega) (by repeat (first | exact Sub.nil _ | refine Sub.cons rfl ?_)) (by repeat (first | exact Part.nil _ | (apply Part.cons; with_reducible (first | exact P0 | exact P1 | exact P2 | exact P3 | exact P4 | exact P5 | exact P6 | exact P7 | exact P8 | exact P9 | exact P10 | exact P11 | exact P12 | exact P13 | exact P14 | exact P15 | exact P16 | exact P17 | exact P18 | exact P19 | exact P20 | exact P21 | exact P22 | exact P23)) | (apply Part.flat; simp only [List.cons_append, List.nil_append]) | (apply Part.cons; (first | exact P0 | exact P1 | exact P2 | exact P3 | exact P4 | exact P5 | exact P6 | exact P7 | exact P8 | exact P9 | exact P10 | exact P11 | exact P12 | exact P13 | exact P14 | exact P15 | exact P16 | exact P17 | exact P18 | exact P19 | exact P20 | exact P21 | exact P22 | exact P23)) | (apply Part.nilc)))
  intro h13_1
  refine SPL_nil ?_
  refine thenP_n ?_
  refine SP_cond_f rfl ?_
  refine SP_exit ?_
  refine thenP_exit ?_
  refine thenP_exit ?_
  refine inBlockP_hit ?_
  refine thenP_n ?_
  refine SP_seq ?_
  have hn0 : n13 = 0 := by omega
  subst hn0
  unfold bltL at hd13
  injection hd13 with hd13
  subst hd13
  obtain ⟨m1, hm1⟩ : ∃ m1 : VM, m1 = ⟨g, ⟨[], [], [], [], 0, [], t13⟩, 21⟩ := ⟨_, rfl⟩
  have hM13 : isVM b ph7 hh m1 sg13 := by rw [hm1]; exact hM13
  have hcz : m1.vs.clos.length = 0 := by rw [hm1]; rfl
  obtain ⟨la, ua, ea, xa, lc, uc, ec, xc, s0, sl, s2, rfl, hcl, hputL⟩ := hM13.opnL
  refine SP_openAt [blk b.vb 115 [pt b.nb, pt b.tb, .slice ph7.pa m1.pg.protos.length ph7.pc, .slice ph7.da m1.pg.descs.length ph7.dc, .slice ph7.ka m1.pg.consts.length ph7.kc, .slice ph7.ca m1.pg.code.length ph7.cc, .slice la m1.vs.clos.length lc, .slice ua m1.vs.upix.length uc, .slice ea m1.vs.cells.length ec, .slice (some ⟨b.thb, 0, none⟩) m1.vs.threads.length 5, I m1.vs.fuel, .slice xa m1.vs.out.length xc, I m1.ended], s0, sl, s2] (by first | exact P0 | exact P1 | exact P2 | exact P3 | exact P4 | exact P5 | exact P6 | exact P7 | exact P8 | exact P9 | exact P10 | exact P11 | exact P12 | exact P13 | exact P14 | exact P15 | exact P16 | exact P17 | exact P18 | exact P19 | exact P20 | exact P21 | exact P22 | exact P23) ?_
  simp only [List.cons_append, List.nil_append]
  refine SP_region ?_
  refine SPL_y (y_move rfl) rfl ?_
  refine SPL_y (y_move rfl) rfl ?_
  refine SPL_y (y_nil rfl) rfl ?_
  refine SPL_y (y_fa fld_115_6 rfl) rfl ?_
  refine SPL_y (y_load Tryz.isAgg111 rfl (by repeat (first | exact Cell.amid hpre rfl | exact Cell.head rfl | apply Cell.tail))) rfl ?_
  refine SPL_y (y_build B181 rfl rfl (by simp only [fillL, List.foldl_cons, List.foldl_nil, List.set_cons_zero, List.set_cons_succ]; exact rfl)) rfl ?_
  refine SPL_one rfl (SP1_slice1 el_111 rfl rfl rfl rfl rfl ?_)
  intro b65
  refine SPL_one rfl (SP1_append el_111 (.inl Tryz.underlying111) rfl rfl hcl (by first | exact P0 | exact P1 | exact P2 | exact P3 | exact P4 | exact P5 | exact P6 | exact P7 | exact P8 | exact P9 | exact P10 | exact P11 | exact P12 | exact P13 | exact P14 | exact P15 | exact P16 | exact P17 | exact P18 | exact P19 | exact P20 | exact P21 | exact P22 | exact P23) (Src.of (by repeat (first | exact Cells.all _ | exact Cells.amid hpre rfl (by decide) | exact Cells.head rfl | apply Cells.tail)) (by rfl)) (by rfl) (by omega) rfl ?_)
  intro la1 lc1 sl1 hA1
  refine SPL_y (y_nil rfl) rfl ?_
  refine SPL_y (y_fa fld_115_6 rfl) rfl ?_
  refine SPL_one rfl (SP1_store Tryz.sizeOf111 rfl rfl rfl (by first | exact U0 | exact U1 | exact U2 | exact U3 | exact U4 | exact U5 | exact U6 | exact U7 | exact U8 | exact U9 | exact U10 | exact U11 | exact U12 | exact U13 | exact U14 | exact U15 | exact U16 | exact U17 | exact U18 | exact U19 | exact U20 | exact U21 | exact U22 | exact U23) (by rfl) ?_)
  refine SPL_nil ?_
  refine thenP_n ?_
  refine SP_seq ?_
  have hcl0 : m1.vs.clos = [] := by rw [hm1]
  have hA1' : Arr 181 3 la1 (m1.vs.clos ++ [(⟨0, 0, 0⟩ : Cl)]).length lc1 ((m1.vs.clos ++ [(⟨0, 0, 0⟩ : Cl)]).flatMap clV) sl1 := by
    rw [List.length_append, List.flatMap_append]; exact hA1
  have hM17 := hputL (m1.vs.clos ++ [(⟨0, 0, 0⟩ : Cl)]) la1 lc1 sl1 hA1'
  rw [List.length_append] at hM17
  refine SP_part (H' := [List.flatten [blk b.vb 115 [pt b.nb, pt b.tb, .slice ph7.pa m1.pg.protos.length ph7.pc, .slice ph7.da m1.pg.descs.length ph7.dc, .slice ph7.ka m1.pg.consts.length ph7.kc, .slice ph7.ca m1.pg.code.length ph7.cc, .slice la1 (m1.vs.clos.length + 1) lc1, .slice ua m1.vs.upix.length uc, .slice ea m1.vs.cells.length ec, .slice (some ⟨b.thb, 0, none⟩) m1.vs.threads.length 5, I m1.vs.fuel, .slice xa m1.vs.out.length xc, I m1.ended], s0, sl1, s2]]) (by repeat (first | exact Part.nil _ | (apply Part.cons; with_reducible (first | exact P0 | exact P1 | exact P2 | exact P3 | exact P4 | exact P5 | exact P6 | exact P7 | exact P8 | exact P9 | exact P10 | exact P11 | exact P12 | exact P13 | exact P14 | exact P15 | exact P16 | exact P17 | exact P18 | exact P19 | exact P20 | exact P21 | exact P22 | exact P23)) | (apply Part.flat; simp only [List.cons_append, List.nil_append]) | (apply Part.cons; (first | exact P0 | exact P1 | exact P2 | exact P3 | exact P4 | exact P5 | exact P6 | exact P7 | exact P8 | exact P9 | exact P10 | exact P11 | exact P12 | exact P13 | exact P14 | exact P15 | exact P16 | exact P17 | exact P18 | exact P19 | exact P20 | exact P21 | exact P22 | exact P23)) | (apply Part.nilc))) ?_
  obtain ⟨sg17, hsg17⟩ : ∃ s, s = List.flatten [blk b.vb 115 [pt b.nb, pt b.tb, .slice ph7.pa m1.pg.protos.length ph7.pc, .slice ph7.da m1.pg.descs.length ph7.dc, .slice ph7.ka m1.pg.consts.length ph7.kc, .slice ph7.ca m1.pg.code.length ph7.cc, .slice la1 (m1.vs.clos.length + 1) lc1, .slice ua m1.vs.upix.length uc, .slice ea m1.vs.cells.length ec, .slice (some ⟨b.thb, 0, none⟩) m1.vs.threads.length 5, I m1.vs.fuel, .slice xa m1.vs.out.length xc, I m1.ended], s0, sl1, s2] := ⟨_, rfl⟩
  have hM18 : isVM b ph7 hh ⟨g, ⟨[⟨0, 0, 0⟩], [], [], [], 0, [], t13⟩, 21⟩ sg17 := by
    rw [hsg17]
    subst hm1
    exact hM17
  rw [← hsg17]
  refine SP_region ?_
  refine SPL_y (y_move rfl) rfl ?_
  refine SPL_one rfl (SP1_call (vm_spawn b ph7 hh (m := ⟨g, ⟨[⟨0, 0, 0⟩], [], [], [], 0, [], t13⟩, 21⟩) rfl _ hM18) Tryz.call81 rfl rfl (by repeat (first | exact Part.nil _ | (apply Part.cons; with_reducible (first | exact P0 | exact P1 | exact P2 | exact P3 | exact P4 | exact P5 | exact P6 | exact P7 | exact P8 | exact P9 | exact P10 | exact P11 | exact P12 | exact P13 | exact P14 | exact P15 | exact P16 | exact P17 | exact P18 | exact P19 | exact P20 | exact P21 | exact P22 | exact P23)) | (apply Part.flat; simp only [List.cons_append, List.nil_append]) | (apply Part.cons; (first | exact P0 | exact P1 | exact P2 | exact P3 | exact P4 | exact P5 | exact P6 | exact P7 | exact P8 | exact P9 | exact P10 | exact P11 | exact P12 | exact P13 | exact P14 | exact P15 | exact P16 | exact P17 | exact P18 | exact P19 | exact P20 | exact P21 | exact P22 | exact P23)) | (apply Part.nilc))) ?_)
  rintro v post H' ⟨rfl, sg18, hM19, rfl⟩ hH
  try simp only [List.cons_append, List.nil_append] at hH
  subst hH
  refine SPL_nil ?_
  refine thenP_n ?_
  refine SP_seq ?_
  refine SP_seq ?_
  obtain ⟨m2, hm2⟩ : ∃ m2 : VM, m2 = ⟨g, ⟨[⟨0, 0, 0⟩], [], [], [thNew 0], 0, [], t13⟩, 21⟩ := ⟨_, rfl⟩
  have hM19 : isVM b ph7 hh m2 sg18 := by rw [hm2]; exact hM19
  obtain ⟨la, ua, ea, xa, lc, uc, ec, xc, s0, rfl, hputF⟩ := hM19.opnFE
  refine SP_openAt [blk b.vb 115 [pt b.nb, pt b.tb, .slice ph7.pa m2.pg.protos.length ph7.pc, .slice ph7.da m2.pg.descs.length ph7.dc, .slice ph7.ka m2.pg.consts.length ph7.kc, .slice ph7.ca m2.pg.code.length ph7.cc, .slice la m2.vs.clos.length lc, .slice ua m2.vs.upix.length uc, .slice ea m2.vs.cells.length ec, .slice (some ⟨b.thb, 0, none⟩) m2.vs.threads.length 5, I m2.vs.fuel, .slice xa m2.vs.out.length xc, I m2.ended], s0] (by first | exact P0 | exact P1 | exact P2 | exact P3 | exact P4 | exact P5 | exact P6 | exact P7 | exact P8 | exact P9 | exact P10 | exact P11 | exact P12 | exact P13 | exact P14 | exact P15 | exact P16 | exact P17 | exact P18 | exact P19 | exact P20 | exact P21 | exact P22 | exact P23) ?_
  simp only [List.cons_append, List.nil_append]
  refine SP_region ?_
  refine SPL_y (y_move rfl) rfl ?_
  refine SPL_ifn (y_gtr rfl rfl) rfl ?_ ?_
  · intro h19_1
    refine SPL_nil ?_
    refine thenP_n ?_
    refine SP_cond_f rfl ?_
    refine SP_skip ?_
    refine thenP_n ?_
    refine SP_seq ?_
    refine SP_region ?_
    refine SPL_y (y_move rfl) rfl ?_
    refine SPL_y (y_nil rfl) rfl ?_
    refine SPL_y (y_fa fld_115_12 rfl) rfl ?_
    refine SPL_one rfl (SP1_store Tryz.sizeOf30 rfl rfl rfl (by first | exact U0 | exact U1 | exact U2 | exact U3 | exact U4 | exact U5 | exact U6 | exact U7 | exact U8 | exact U9 | exact U10 | exact U11 | exact U12 | exact U13 | exact U14 | exact U15 | exact U16 | exact U17 | exact U18 | exact U19 | exact U20 | exact U21 | exact U22 | exact U23) (by rfl) ?_)
    refine SPL_nil ?_
    refine thenP_n ?_
    refine SP_seq ?_
    refine SP_region ?_
    refine SPL_y (y_assign rfl) rfl ?_
    refine SPL_nil ?_
    refine thenP_n ?_
    refine SP_ret ?_
    refine bodyP_ret (H' := [List.flatten [blk b.vb 115 [pt b.nb, pt b.tb, .slice ph7.pa m2.pg.protos.length ph7.pc, .slice ph7.da m2.pg.descs.length ph7.dc, .slice ph7.ka m2.pg.consts.length ph7.kc, .slice ph7.ca m2.pg.code.length ph7.cc, .slice la m2.vs.clos.length lc, .slice ua m2.vs.upix.length uc, .slice ea m2.vs.cells.length ec, .slice (some ⟨b.thb, 0, none⟩) m2.vs.threads.length 5, I m2.vs.fuel, .slice xa m2.vs.out.length xc, I 0], s0]]) (Res1 rfl rfl) (by repeat (first | exact Part.nil _ | (apply Part.cons; with_reducible (first | exact P0 | exact P1 | exact P2 | exact P3 | exact P4 | exact P5 | exact P6 | exact P7 | exact P8 | exact P9 | exact P10 | exact P11 | exact P12 | exact P13 | exact P14 | exact P15 | exact P16 | exact P17 | exact P18 | exact P19 | exact P20 | exact P21 | exact P22 | exact P23)) | (apply Part.flat; simp only [List.cons_append, List.nil_append]) | (apply Part.cons; (first | exact P0 | exact P1 | exact P2 | exact P3 | exact P4 | exact P5 | exact P6 | exact P7 | exact P8 | exact P9 | exact P10 | exact P11 | exact P12 | exact P13 | exact P14 | exact P15 | exact P16 | exact P17 | exact P18 | exact P19 | exact P20 | exact P21 | exact P22 | exact P23)) | (apply Part.nilc))) ?_
    refine ⟨rfl, ph7, _, ?_, rfl⟩
    have h1 := hputF m2.vs.fuel 0
    unfold ld1
    rw [if_neg (by omega)]
    subst hm2
    exact h1
  intro h19_1
  refine SPL_nil ?_
  refine thenP_n ?_
  refine SP_cond_t rfl ?_
  refine SP_region ?_
  refine SPL_y (y_move rfl) rfl ?_
  refine SPL_y (y_move rfl) rfl ?_
  refine SPL_y (y_nil rfl) rfl ?_
  refine SPL_y (y_fa fld_115_10 rfl) rfl ?_
  refine SPL_one rfl (SP1_store Tryz.sizeOf3 rfl rfl rfl (by first | exact U0 | exact U1 | exact U2 | exact U3 | exact U4 | exact U5 | exact U6 | exact U7 | exact U8 | exact U9 | exact U10 | exact U11 | exact U12 | exact U13 | exact U14 | exact U15 | exact U16 | exact U17 | exact U18 | exact U19 | exact U20 | exact U21 | exact U22 | exact U23) (by rfl) ?_)
  refine SPL_nil ?_
  refine thenP_n ?_
  refine SP_seq ?_
  refine SP_region ?_
  refine SPL_y (y_move rfl) rfl ?_
  refine SPL_y (y_nil rfl) rfl ?_
  refine SPL_y (y_fa fld_115_12 rfl) rfl ?_
  refine SPL_one rfl (SP1_store Tryz.sizeOf30 rfl rfl rfl (by first | exact U0 | exact U1 | exact U2 | exact U3 | exact U4 | exact U5 | exact U6 | exact U7 | exact U8 | exact U9 | exact U10 | exact U11 | exact U12 | exact U13 | exact U14 | exact U15 | exact U16 | exact U17 | exact U18 | exact U19 | exact U20 | exact U21 | exact U22 | exact U23) (by rfl) ?_)
  refine SPL_nil ?_
  refine thenP_n ?_
  refine SP_seq ?_
  refine SP_region ?_
  refine SPL_y (y_assign rfl) rfl ?_
  refine SPL_nil ?_
  refine thenP_n ?_
  refine SP_ret ?_
  refine bodyP_ret (H' := [List.flatten [blk b.vb 115 [pt b.nb, pt b.tb, .slice ph7.pa m2.pg.protos.length ph7.pc, .slice ph7.da m2.pg.descs.length ph7.dc, .slice ph7.ka m2.pg.consts.length ph7.kc, .slice ph7.ca m2.pg.code.length ph7.cc, .slice la m2.vs.clos.length lc, .slice ua m2.vs.upix.length uc, .slice ea m2.vs.cells.length ec, .slice (some ⟨b.thb, 0, none⟩) m2.vs.threads.length 5, I fuel, .slice xa m2.vs.out.length xc, I 0], s0]]) (Res1 rfl rfl) (by repeat (first | exact Part.nil _ | (apply Part.cons; with_reducible (first | exact P0 | exact P1 | exact P2 | exact P3 | exact P4 | exact P5 | exact P6 | exact P7 | exact P8 | exact P9 | exact P10 | exact P11 | exact P12 | exact P13 | exact P14 | exact P15 | exact P16 | exact P17 | exact P18 | exact P19 | exact P20 | exact P21 | exact P22 | exact P23)) | (apply Part.flat; simp only [List.cons_append, List.nil_append]) | (apply Part.cons; (first | exact P0 | exact P1 | exact P2 | exact P3 | exact P4 | exact P5 | exact P6 | exact P7 | exact P8 | exact P9 | exact P10 | exact P11 | exact P12 | exact P13 | exact P14 | exact P15 | exact P16 | exact P17 | exact P18 | exact P19 | exact P20 | exact P21 | exact P22 | exact P23)) | (apply Part.nilc))) ?_
  refine ⟨rfl, ph7, _, ?_, rfl⟩
  have h1 := hputF fuel 0
  unfold ld1
  rw [if_pos (by omega)]
  subst hm2
  exact h1

end Go.Sl
