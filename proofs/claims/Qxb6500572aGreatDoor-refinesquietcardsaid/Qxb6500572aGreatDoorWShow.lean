/- Walks: texts and checks (made by program out of short notes) -/
import Derived.Test.Qxb6500572aGreatDoorPShow
import Derived.Test.Qxb6500572aGreatDoorWPrepM
import Derived.Test.Qxb6500572aGreatDoorSlV
import Derived.Test.Qxb6500572aGreatDoorWMachC
import Derived.Test.Qxb6500572aGreatDoorWApiB
import Derived.Test.Qxb6500572aGreatDoorPRun
namespace Go.Sl
open Go Go.Wl Go.Proofs
set_option maxRecDepth 100000
set_option linter.unusedVariables false
set_option linter.unusedSimpArgs false
theorem build182 (a b c d : Int) (w : World) : (Instr.build 182 #[(0, I a), (1, I b), (2, I c), (3, I d)]).run Tryz.prog w = .ok (.agg #[I a, I b, I c, I d]) w := by kernel_rfl
theorem y_build4 {n : Nat} {ρ : Env} {H : Hp} {ty : TypeId} {x y z u : Operand} {a b c d : Int} (h1 : ev ρ x = some (I a)) (h2 : ev ρ y = some (I b)) (h3 : ev ρ z = some (I c)) (h4 : ev ρ u = some (I d)) : Yo Tryz.prog n (.build 182 #[(0, x), (1, y), (2, z), (3, u)]) ty ρ H (.agg ([a, b, c, d].map I).toArray) :=
  .mk fun _ _ hf w => by
    have := build182 a b c d w
    simp only [runs, execOp, hf.ev h1, hf.ev h2, hf.ev h3, hf.ev h4, List.map_toArray, List.map_cons, List.map_nil, Sem.run_bind]
    rw [this]; rfl

theorem prep_Show (pb : Nat) (fa : Option Addr) (P : Prog) (steps : Int) (sp : Seg) (hp : isProg pb fa P steps sp) (hB : ProgB P) : Spec Tryz.prog 48 [.pointer (some ⟨pb, 0, none⟩)] [sp] (Ret fun v H => v = S (showProg P) ∧ H = [sp]) := by
  obtain ⟨fc, sf, sc, fcs, rfl, hfr, hfs⟩ := hp
  refine Spec_flat ?_
  simp only [List.cons_append, List.nil_append]
  refine Spec_enter Tryz.func48 rfl Tryz.ntmps48 rfl ?_
  show SP _ _ _ _ _ [(0, _)] _
  refine SP_seq ?_
  refine SP_region ?_
  refine SPL_y (y_assign rfl) rfl ?_
  refine SPL_nil ?_
  refine thenP_n ?_
  refine SP_seq ?_
  refine SP_region ?_
  refine SPL_y (y_move rfl) rfl ?_
  refine SPL_y (y_nil rfl) rfl ?_
  refine SPL_y (y_fa fld_96_0 rfl) rfl ?_
  refine SPL_y (y_load Tryz.isAgg3 rfl (by repeat (first | exact Cell.head rfl | apply Cell.tail))) rfl ?_
  refine SPL_one rfl (SP1_call (api_Num [] P.nimp (by simp) hB.a.1.1 hB.a.1.2) Tryz.call41 rfl rfl (by repeat (first | exact Part.nil _ | (apply Part.cons; (first | exact P0 | exact P1 | exact P2 | exact P3 | exact P4 | exact P5 | exact P6 | exact P7 | exact P8 | exact P9 | exact P10 | exact P11 | exact P12 | exact P13 | exact P14 | exact P15 | exact P16 | exact P17 | exact P18 | exact P19 | exact P20 | exact P21 | exact P22 | exact P23)) | (apply Part.flat; simp only [List.cons_append, List.nil_append]) | (apply Part.nilc))) ?_)
  rintro v post H' ⟨rfl, rfl⟩ hH
  try simp only [List.cons_append, List.nil_append] at hH
  subst hH
  refine SPL_y (y_assign rfl) rfl ?_
  refine SPL_nil ?_
  refine thenP_n ?_
  refine SP_seq ?_
  refine SP_region ?_
  refine SPL_y (y_move rfl) rfl ?_
  refine SPL_y (y_move rfl) rfl ?_
  refine SPL_y (y_nil rfl) rfl ?_
  refine SPL_y (y_fa fld_96_1 rfl) rfl ?_
  refine SPL_y (y_load Tryz.isAgg3 rfl (by repeat (first | exact Cell.head rfl | apply Cell.tail))) rfl ?_
  refine SPL_one rfl (SP1_call (api_Num (num [] P.nimp) P.min (by have := numS_len P.nimp; simp [num]; omega) hB.a.2.1.1 hB.a.2.1.2) Tryz.call41 rfl rfl (by repeat (first | exact Part.nil _ | (apply Part.cons; (first | exact P0 | exact P1 | exact P2 | exact P3 | exact P4 | exact P5 | exact P6 | exact P7 | exact P8 | exact P9 | exact P10 | exact P11 | exact P12 | exact P13 | exact P14 | exact P15 | exact P16 | exact P17 | exact P18 | exact P19 | exact P20 | exact P21 | exact P22 | exact P23)) | (apply Part.flat; simp only [List.cons_append, List.nil_append]) | (apply Part.nilc))) ?_)
  rintro v post H' ⟨rfl, rfl⟩ hH
  try simp only [List.cons_append, List.nil_append] at hH
  subst hH
  refine SPL_y (y_assign rfl) rfl ?_
  refine SPL_nil ?_
  refine thenP_n ?_
  refine SP_seq ?_
  refine SP_region ?_
  refine SPL_y (y_move rfl) rfl ?_
  refine SPL_y (y_move rfl) rfl ?_
  refine SPL_y (y_nil rfl) rfl ?_
  refine SPL_y (y_fa fld_96_2 rfl) rfl ?_
  refine SPL_y (y_load Tryz.isAgg3 rfl (by repeat (first | exact Cell.head rfl | apply Cell.tail))) rfl ?_
  refine SPL_one rfl (SP1_call (api_Num (num (num [] P.nimp) P.min) P.max (by have := numS_len P.nimp; have := numS_len P.min; simp [num]; omega) hB.a.2.2.1 hB.a.2.2.2) Tryz.call41 rfl rfl (by repeat (first | exact Part.nil _ | (apply Part.cons; (first | exact P0 | exact P1 | exact P2 | exact P3 | exact P4 | exact P5 | exact P6 | exact P7 | exact P8 | exact P9 | exact P10 | exact P11 | exact P12 | exact P13 | exact P14 | exact P15 | exact P16 | exact P17 | exact P18 | exact P19 | exact P20 | exact P21 | exact P22 | exact P23)) | (apply Part.flat; simp only [List.cons_append, List.nil_append]) | (apply Part.nilc))) ?_)
  rintro v post H' ⟨rfl, rfl⟩ hH
  try simp only [List.cons_append, List.nil_append] at hH
  subst hH
  refine SPL_y (y_assign rfl) rfl ?_
  refine SPL_nil ?_
  refine thenP_n ?_
  refine SP_seq ?_
  refine SP_seq ?_
  rw [show num (num (num [] P.nimp) P.min) P.max = numS P.nimp ++ numS P.min ++ numS P.max ++ (P.funs.take 0).flatMap showFun by simp [num]]
  refine SP_region ?_
  refine SPL_y (y_move rfl) rfl ?_
  refine SPL_y (y_nil rfl) rfl ?_
  refine SPL_y (y_fa fld_96_4 rfl) rfl ?_
  refine SPL_y (y_load Tryz.isAgg94 rfl (by repeat (first | exact Cell.head rfl | apply Cell.tail))) rfl ?_
  refine SPL_y (y_len_l Tryz.underlying94 rfl) rfl ?_
  refine SPL_y (y_move rfl) rfl ?_
  refine SPL_nil ?_
  refine thenP_n ?_
  refine SP_block ?_
  refine SP_loop (G := Nat) (fun g => P.funs.length - g) (fun g => [(0, .pointer (some ⟨pb, 0, none⟩)), (3, S (numS P.nimp ++ numS P.min ++ numS P.max ++ (P.funs.take g).flatMap showFun)), (30, .slice fa P.funs.length fc), (31, I P.funs.length), (32, I (g : Nat))]) (fun _ => [blk pb 96 [I P.nimp, I P.min, I P.max, I steps, .slice fa P.funs.length fc], sf, sc]) (fun g => g ≤ P.funs.length) (0) (Nat.zero_le _) (by repeat (first | exact Sub.nil _ | refine Sub.cons rfl ?_)) (by repeat (first | exact Part.nil _ | (apply Part.cons; (first | exact P0 | exact P1 | exact P2 | exact P3 | exact P4 | exact P5 | exact P6 | exact P7 | exact P8 | exact P9 | exact P10 | exact P11 | exact P12 | exact P13 | exact P14 | exact P15 | exact P16 | exact P17 | exact P18 | exact P19 | exact P20 | exact P21 | exact P22 | exact P23)) | (apply Part.flat; simp only [List.cons_append, List.nil_append]) | (apply Part.nilc))) ?_
  rintro g hg
  refine SP_seq ?_
  refine SP_region ?_
  refine SPL_ifn (y_lss rfl rfl) rfl ?_ ?_
  · intro h5_0
    refine SPL_nil ?_
    refine thenP_n ?_
    refine SP_seq ?_
    refine SP_cond_f rfl ?_
    refine SP_exit ?_
    refine thenP_exit ?_
    refine thenP_exit ?_
    refine inBlockP_hit ?_
    refine thenP_n ?_
    refine SP_seq ?_
    refine SP_region ?_
    refine SPL_y (y_move rfl) rfl ?_
    refine SPL_y (y_assign rfl) rfl ?_
    refine SPL_nil ?_
    refine thenP_n ?_
    refine SP_ret ?_
    refine bodyP_ret (H' := [List.flatten [blk pb 96 [I P.nimp, I P.min, I P.max, I steps, .slice fa P.funs.length fc], sf, sc]]) (Res1 rfl rfl) (by repeat (first | exact Part.nil _ | (apply Part.cons; (first | exact P0 | exact P1 | exact P2 | exact P3 | exact P4 | exact P5 | exact P6 | exact P7 | exact P8 | exact P9 | exact P10 | exact P11 | exact P12 | exact P13 | exact P14 | exact P15 | exact P16 | exact P17 | exact P18 | exact P19 | exact P20 | exact P21 | exact P22 | exact P23)) | (apply Part.flat; simp only [List.cons_append, List.nil_append]) | (apply Part.nilc))) ?_
    obtain rfl : g = P.funs.length := by omega
    rw [List.take_length]
    exact ⟨rfl, rfl⟩
  intro h5_0
  refine SPL_nil ?_
  refine thenP_n ?_
  refine SP_seq ?_
  refine SP_cond_t rfl ?_
  refine SP_skip ?_
  refine thenP_n ?_
  refine SP_seq ?_
  refine SP_block ?_
  refine SP_seq ?_
  have hgl : g < P.funs.length := by omega
  obtain ⟨rb, rsp, rfl, hfc, hrsp, rfl⟩ := hfr.row (by omega)
  obtain ⟨ca, ua, uc, cb, s1, sv, s2, rfl, hca, rfl, hcode, _⟩ := hfs.get hgl
  refine SP_open (by first | exact P0 | exact P1 | exact P2 | exact P3 | exact P4 | exact P5 | exact P6 | exact P7 | exact P8 | exact P9 | exact P10 | exact P11 | exact P12 | exact P13 | exact P14 | exact P15 | exact P16 | exact P17 | exact P18 | exact P19 | exact P20 | exact P21 | exact P22 | exact P23) ?_
  simp only [List.cons_append, List.nil_append]
  obtain ⟨u, hu⟩ : ∃ u, P.funs[g] = u := ⟨_, rfl⟩
  rw [hu] at hcode ⊢
  have hub := hB.f u (hu ▸ List.getElem_mem hgl)
  have hsl : ((P.funs.take g).flatMap showFun).length ≤ g * 90000 := by
    have := flat_le (l := P.funs.take g) (f := showFun) (k := 90000) (fun x hx => by have := hB.f x (List.mem_of_mem_take hx); exact showFun_len ⟨this.1, this.2.1, this.2.2.1, this.2.2.2.1⟩)
    rw [List.length_take] at this
    exact Nat.le_trans this (Nat.mul_le_mul_right _ (Nat.min_le_left _ _))
  have hbn := hB.n
  have hb1 := numS_len P.nimp
  have hb2 := numS_len P.min
  have hb3 := numS_len P.max
  refine SP_region ?_
  refine SPL_y (y_ia Tryz.underlying94 Tryz.sizeOf108 rfl rfl (by omega)) rfl ?_
  refine SPL_y (y_loads Tryz.isAgg108 Tryz.sizeOf108 rfl rfl (by repeat (first | exact mid_cells (j := (g : Int)) rfl hca rfl | apply Cells.tail))) rfl ?_
  refine SPL_one rfl (SP1_alloc Tryz.zeroValue108 rfl rfl ?_)
  intro b5
  refine SPL_one rfl (SP1_storeAll Tryz.sizeOf108 rfl rfl rfl rfl rfl (by first | exact U0 | exact U1 | exact U2 | exact U3 | exact U4 | exact U5 | exact U6 | exact U7 | exact U8 | exact U9 | exact U10 | exact U11 | exact U12 | exact U13 | exact U14 | exact U15 | exact U16 | exact U17 | exact U18 | exact U19 | exact U20 | exact U21 | exact U22 | exact U23) (by rfl) ?_)
  refine SPL_nil ?_
  refine thenP_n ?_
  refine SP_seq ?_
  refine SP_region ?_
  refine SPL_y (y_move rfl) rfl ?_
  refine SPL_y (y_cat rfl rfl (by simp only [List.length_append, List.length_cons, List.length_nil]; omega)) rfl ?_
  refine SPL_y (y_fa fld_108_0 rfl) rfl ?_
  refine SPL_y (y_load Tryz.isAgg9 rfl (by repeat (first | exact Cell.head rfl | apply Cell.tail))) rfl ?_
  refine SPL_y (y_cat rfl rfl (by simp only [List.length_append, List.length_cons, List.length_nil]; omega)) rfl ?_
  refine SPL_y (y_cat rfl rfl (by simp only [List.length_append, List.length_cons, List.length_nil]; omega)) rfl ?_
  refine SPL_y (y_fa fld_108_1 rfl) rfl ?_
  refine SPL_y (y_load Tryz.isAgg9 rfl (by repeat (first | exact Cell.head rfl | apply Cell.tail))) rfl ?_
  refine SPL_y (y_cat rfl rfl (by simp only [List.length_append, List.length_cons, List.length_nil]; omega)) rfl ?_
  refine SPL_y (y_cat rfl rfl (by simp only [List.length_append, List.length_cons, List.length_nil]; omega)) rfl ?_
  refine SPL_y (y_fa fld_108_2 rfl) rfl ?_
  refine SPL_y (y_load Tryz.isAgg9 rfl (by repeat (first | exact Cell.head rfl | apply Cell.tail))) rfl ?_
  refine SPL_y (y_cat rfl rfl (by simp only [List.length_append, List.length_cons, List.length_nil]; omega)) rfl ?_
  refine SPL_y (y_cat rfl rfl (by simp only [List.length_append, List.length_cons, List.length_nil]; omega)) rfl ?_
  refine SPL_y (y_assign rfl) rfl ?_
  refine SPL_nil ?_
  refine thenP_n ?_
  refine SP_seq ?_
  rw [show numS P.nimp ++ numS P.min ++ numS P.max ++ (P.funs.take g).flatMap showFun ++ [70, 32] ++ u.params ++ [62] ++ u.results ++ [43] ++ u.locals ++ [32] = numS P.nimp ++ numS P.min ++ numS P.max ++ (P.funs.take g).flatMap showFun ++ ([70, 32] ++ u.params ++ [62] ++ u.results ++ [43] ++ u.locals ++ [32]) ++ (u.code.take 0).flatMap showFlat by simp]
  refine SP_region ?_
  refine SPL_y (y_fa fld_108_3 rfl) rfl ?_
  refine SPL_y (y_load Tryz.isAgg106 rfl (by repeat (first | exact Cell.head rfl | apply Cell.tail))) rfl ?_
  refine SPL_y (y_len_l Tryz.underlying106 rfl) rfl ?_
  refine SPL_y (y_move rfl) rfl ?_
  refine SPL_nil ?_
  refine thenP_n ?_
  refine SP_block ?_
  refine SP_loop (G := Nat) (fun j => u.code.length - j) (fun j => [(0, .pointer (some ⟨pb, 0, none⟩)), (3, S (numS P.nimp ++ numS P.min ++ numS P.max ++ (P.funs.take g).flatMap showFun ++ ([70, 32] ++ u.params ++ [62] ++ u.results ++ [43] ++ u.locals ++ [32]) ++ (u.code.take j).flatMap showFlat)), (30, .slice (some ⟨rb, 0, none⟩) P.funs.length fc), (31, I P.funs.length), (32, I (g : Nat)), (51, .slice ua u.code.length uc), (52, I u.code.length), (53, I (j : Nat))]) (fun _ => [blk pb 96 [I P.nimp, I P.min, I P.max, I steps, .slice (some ⟨rb, 0, none⟩) P.funs.length fc], blk rb 108 ((ca ++ [S u.params, S u.results, S u.locals, .slice ua u.code.length uc] ++ cb) ++ rsp), s1, sv, s2]) (fun j => j ≤ u.code.length) (0) (Nat.zero_le _) (by repeat (first | exact Sub.nil _ | refine Sub.cons rfl ?_)) (by repeat (first | exact Part.nil _ | (apply Part.cons; (first | exact P0 | exact P1 | exact P2 | exact P3 | exact P4 | exact P5 | exact P6 | exact P7 | exact P8 | exact P9 | exact P10 | exact P11 | exact P12 | exact P13 | exact P14 | exact P15 | exact P16 | exact P17 | exact P18 | exact P19 | exact P20 | exact P21 | exact P22 | exact P23)) | (apply Part.flat; simp only [List.cons_append, List.nil_append]) | (apply Part.nilc))) ?_
  rintro j hj
  refine SP_seq ?_
  refine SP_region ?_
  refine SPL_ifn (y_lss rfl rfl) rfl ?_ ?_
  · intro h9_0
    refine SPL_nil ?_
    refine thenP_n ?_
    refine SP_seq ?_
    refine SP_cond_f rfl ?_
    refine SP_exit ?_
    refine thenP_exit ?_
    refine thenP_exit ?_
    refine inBlockP_hit ?_
    refine inBlockP_n ?_
    refine thenP_n ?_
    refine SP_region ?_
    refine SPL_y (y_add rfl rfl (by omega)) rfl ?_
    refine SPL_y (y_move rfl) rfl ?_
    refine SPL_nil ?_
    refine thenP_n ?_
    obtain rfl : j = u.code.length := by omega
    rw [List.take_length]
    have e : numS P.nimp ++ numS P.min ++ numS P.max ++ (P.funs.take g).flatMap showFun ++ ([70, 32] ++ u.params ++ [62] ++ u.results ++ [43] ++ u.locals ++ [32]) ++ u.code.flatMap showFlat = numS P.nimp ++ numS P.min ++ numS P.max ++ (P.funs.take (g + 1)).flatMap showFun := by
      rw [List.take_succ_eq_append_getElem hgl, hu, List.flatMap_append]; simp [showFun]
    rw [e]
    exact Again.intro (g + 1) (by omega) (by omega) (by repeat (first | exact Sub.nil _ | refine Sub.cons rfl ?_)) (by repeat (first | exact Part.nil _ | (apply Part.cons; (first | exact P0 | exact P1 | exact P2 | exact P3 | exact P4 | exact P5 | exact P6 | exact P7 | exact P8 | exact P9 | exact P10 | exact P11 | exact P12 | exact P13 | exact P14 | exact P15 | exact P16 | exact P17 | exact P18 | exact P19 | exact P20 | exact P21 | exact P22 | exact P23)) | (apply Part.flat; simp only [List.cons_append, List.nil_append]) | (apply Part.nilc)))
  intro h9_0
  refine SPL_nil ?_
  refine thenP_n ?_
  refine SP_seq ?_
  refine SP_cond_t rfl ?_
  refine SP_skip ?_
  refine thenP_n ?_
  refine SP_seq ?_
  refine SP_block ?_
  refine SP_seq ?_
  have hjl : j < u.code.length := by omega
  obtain ⟨cd, dsp, rfl, hdc, hdsp, rfl⟩ := hcode.row (by omega)
  obtain ⟨c, hc⟩ : ∃ c, u.code[j] = c := ⟨_, rfl⟩
  have hcb := hub.2.2.2.2 c (hc ▸ List.getElem_mem hjl)
  have hcl : ((u.code.take j).flatMap showFlat).length ≤ j * 88 := by
    have := flat_le (l := u.code.take j) (f := showFlat) (k := 88) (fun x _ => showFlat_len x)
    rw [List.length_take] at this
    exact Nat.le_trans this (Nat.mul_le_mul_right _ (Nat.min_le_left _ _))
  have hS2 : (numS P.nimp ++ numS P.min ++ numS P.max ++ (P.funs.take g).flatMap showFun ++ ([70, 32] ++ u.params ++ [62] ++ u.results ++ [43] ++ u.locals ++ [32]) ++ (u.code.take j).flatMap showFlat).length ≤ 100000000 := by simp only [List.length_append, List.length_cons, List.length_nil]; omega
  refine SP_region ?_
  refine SPL_y (y_ia Tryz.underlying106 Tryz.sizeOf181 rfl rfl (by omega)) rfl ?_
  refine SPL_y (y_loads Tryz.isAgg181 Tryz.sizeOf181 rfl rfl (by repeat (first | exact Cells.elem (j := (j : Int)) flatV_len (i := j) (by omega) hjl | apply Cells.tail))) rfl ?_
  rw [hc]
  refine SPL_one rfl (SP1_alloc Tryz.zeroValue181 rfl rfl ?_)
  intro b7
  refine SPL_one rfl (SP1_storeAll Tryz.sizeOf181 rfl rfl rfl rfl rfl (by first | exact U0 | exact U1 | exact U2 | exact U3 | exact U4 | exact U5 | exact U6 | exact U7 | exact U8 | exact U9 | exact U10 | exact U11 | exact U12 | exact U13 | exact U14 | exact U15 | exact U16 | exact U17 | exact U18 | exact U19 | exact U20 | exact U21 | exact U22 | exact U23) (by rfl) ?_)
  refine SPL_nil ?_
  refine thenP_n ?_
  refine SP_seq ?_
  rw [show numS P.nimp ++ numS P.min ++ numS P.max ++ (P.funs.take g).flatMap showFun ++ ([70, 32] ++ u.params ++ [62] ++ u.results ++ [43] ++ u.locals ++ [32]) ++ (u.code.take j).flatMap showFlat = numS P.nimp ++ numS P.min ++ numS P.max ++ (P.funs.take g).flatMap showFun ++ ([70, 32] ++ u.params ++ [62] ++ u.results ++ [43] ++ u.locals ++ [32]) ++ (u.code.take j).flatMap showFlat ++ ([c.op, c.imm, c.keep, c.cut].take 0).flatMap numS by simp]
  refine SP_region ?_
  refine SPL_y (y_fa fld_181_0 rfl) rfl ?_
  refine SPL_y (y_load Tryz.isAgg3 rfl (by repeat (first | exact Cell.head rfl | apply Cell.tail))) rfl ?_
  refine SPL_y (y_fa fld_181_1 rfl) rfl ?_
  refine SPL_y (y_load Tryz.isAgg3 rfl (by repeat (first | exact Cell.head rfl | apply Cell.tail))) rfl ?_
  refine SPL_y (y_fa fld_181_2 rfl) rfl ?_
  refine SPL_y (y_load Tryz.isAgg3 rfl (by repeat (first | exact Cell.head rfl | apply Cell.tail))) rfl ?_
  refine SPL_y (y_fa fld_181_3 rfl) rfl ?_
  refine SPL_y (y_load Tryz.isAgg3 rfl (by repeat (first | exact Cell.head rfl | apply Cell.tail))) rfl ?_
  refine SPL_y (y_build4 rfl rfl rfl rfl) rfl ?_
  refine SPL_y (y_move rfl) rfl ?_
  refine SPL_nil ?_
  refine thenP_n ?_
  refine SP_block ?_
  refine SP_loop (G := Nat) (fun q => 4 - q) (fun q => [(0, .pointer (some ⟨pb, 0, none⟩)), (3, S (numS P.nimp ++ numS P.min ++ numS P.max ++ (P.funs.take g).flatMap showFun ++ ([70, 32] ++ u.params ++ [62] ++ u.results ++ [43] ++ u.locals ++ [32]) ++ (u.code.take j).flatMap showFlat ++ ([c.op, c.imm, c.keep, c.cut].take q).flatMap numS)), (30, .slice (some ⟨rb, 0, none⟩) P.funs.length fc), (31, I P.funs.length), (32, I (g : Nat)), (51, .slice (some ⟨cd, 0, none⟩) u.code.length uc), (52, I u.code.length), (53, I (j : Nat)), (65, .agg ([c.op, c.imm, c.keep, c.cut].map I).toArray), (66, I (q : Nat))]) (fun _ => [blk pb 96 [I P.nimp, I P.min, I P.max, I steps, .slice (some ⟨rb, 0, none⟩) P.funs.length fc], blk rb 108 ((ca ++ [S u.params, S u.results, S u.locals, .slice (some ⟨cd, 0, none⟩) u.code.length uc] ++ cb) ++ rsp), s1, blk cd 181 (u.code.flatMap flatV ++ dsp), s2]) (fun q => q ≤ 4) (0) (Nat.zero_le _) (by repeat (first | exact Sub.nil _ | refine Sub.cons rfl ?_)) (by repeat (first | exact Part.nil _ | (apply Part.cons; (first | exact P0 | exact P1 | exact P2 | exact P3 | exact P4 | exact P5 | exact P6 | exact P7 | exact P8 | exact P9 | exact P10 | exact P11 | exact P12 | exact P13 | exact P14 | exact P15 | exact P16 | exact P17 | exact P18 | exact P19 | exact P20 | exact P21 | exact P22 | exact P23)) | (apply Part.flat; simp only [List.cons_append, List.nil_append]) | (apply Part.nilc))) ?_
  rintro q hq
  refine SP_seq ?_
  refine SP_region ?_
  refine SPL_ifn (y_lss rfl rfl) rfl ?_ ?_
  · intro h12_0
    refine SPL_nil ?_
    refine thenP_n ?_
    refine SP_seq ?_
    refine SP_cond_f rfl ?_
    refine SP_exit ?_
    refine thenP_exit ?_
    refine thenP_exit ?_
    refine inBlockP_hit ?_
    refine inBlockP_n ?_
    refine thenP_n ?_
    refine SP_region ?_
    refine SPL_y (y_add rfl rfl (by omega)) rfl ?_
    refine SPL_y (y_move rfl) rfl ?_
    refine SPL_nil ?_
    refine thenP_n ?_
    obtain rfl : q = 4 := by omega
    have e : numS P.nimp ++ numS P.min ++ numS P.max ++ (P.funs.take g).flatMap showFun ++ ([70, 32] ++ u.params ++ [62] ++ u.results ++ [43] ++ u.locals ++ [32]) ++ (u.code.take j).flatMap showFlat ++ ([c.op, c.imm, c.keep, c.cut].take 4).flatMap numS = numS P.nimp ++ numS P.min ++ numS P.max ++ (P.funs.take g).flatMap showFun ++ ([70, 32] ++ u.params ++ [62] ++ u.results ++ [43] ++ u.locals ++ [32]) ++ (u.code.take (j + 1)).flatMap showFlat := by
      rw [List.take_succ_eq_append_getElem hjl, hc, List.flatMap_append]; simp [showFlat]
    rw [e]
    exact Again.intro (j + 1) (by omega) (by omega) (by repeat (first | exact Sub.nil _ | refine Sub.cons rfl ?_)) (by repeat (first | exact Part.nil _ | (apply Part.cons; (first | exact P0 | exact P1 | exact P2 | exact P3 | exact P4 | exact P5 | exact P6 | exact P7 | exact P8 | exact P9 | exact P10 | exact P11 | exact P12 | exact P13 | exact P14 | exact P15 | exact P16 | exact P17 | exact P18 | exact P19 | exact P20 | exact P21 | exact P22 | exact P23)) | (apply Part.flat; simp only [List.cons_append, List.nil_append]) | (apply Part.nilc)))
  intro h12_0
  refine SPL_nil ?_
  refine thenP_n ?_
  refine SP_seq ?_
  refine SP_cond_t rfl ?_
  refine SP_skip ?_
  refine thenP_n ?_
  refine SP_seq ?_
  refine SP_block ?_
  refine SP_seq ?_
  obtain ⟨nv, hnx⟩ : ∃ z, [c.op, c.imm, c.keep, c.cut][q]? = some z := ⟨_, List.getElem?_eq_getElem (by simp; omega)⟩
  have hnv : i64ok nv := by
    have : nv ∈ [c.op, c.imm, c.keep, c.cut] := List.mem_of_getElem? hnx
    simp at this
    rcases this with rfl | rfl | rfl | rfl
    · exact hcb.1
    · exact hcb.2.1
    · exact hcb.2.2.1
    · exact hcb.2.2.2
  obtain ⟨s3, hs3e⟩ : ∃ z, numS P.nimp ++ numS P.min ++ numS P.max ++ (P.funs.take g).flatMap showFun ++ ([70, 32] ++ u.params ++ [62] ++ u.results ++ [43] ++ u.locals ++ [32]) ++ (u.code.take j).flatMap showFlat ++ ([c.op, c.imm, c.keep, c.cut].take q).flatMap numS = z := ⟨_, rfl⟩
  have hql := flat_le (l := [c.op, c.imm, c.keep, c.cut].take q) (f := numS) (k := 22) (fun x _ => numS_len x)
  rw [List.length_take] at hql
  have hs3 : s3.length ≤ 1000000000000 := by rw [← hs3e, List.length_append]; simp only [List.length_cons, List.length_nil] at hql; have : min q 4 * 22 ≤ 4 * 22 := Nat.mul_le_mul_right _ (Nat.min_le_right _ _); omega
  rw [hs3e]
  refine SP_region ?_
  refine SPL_y (y_idx_arr Tryz.underlying182 Tryz.isAgg3 Tryz.sizeOf3 rfl rfl ⟨by omega, by omega⟩ (v := I nv) (by rw [show ((q : Nat) : Int).toNat = q by omega]; have := congrArg (Option.map I) hnx; rw [← List.getElem?_map] at this; exact this)) rfl ?_
  refine SPL_y (y_assign rfl) rfl ?_
  refine SPL_nil ?_
  refine thenP_n ?_
  refine SP_region ?_
  refine SPL_y (y_move rfl) rfl ?_
  refine SPL_y (y_move rfl) rfl ?_
  refine SPL_one rfl (SP1_call (api_Num s3 nv hs3 hnv.1 hnv.2) Tryz.call41 rfl rfl (by repeat (first | exact Part.nil _ | (apply Part.cons; (first | exact P0 | exact P1 | exact P2 | exact P3 | exact P4 | exact P5 | exact P6 | exact P7 | exact P8 | exact P9 | exact P10 | exact P11 | exact P12 | exact P13 | exact P14 | exact P15 | exact P16 | exact P17 | exact P18 | exact P19 | exact P20 | exact P21 | exact P22 | exact P23)) | (apply Part.flat; simp only [List.cons_append, List.nil_append]) | (apply Part.nilc))) ?_)
  rintro v post H' ⟨rfl, rfl⟩ hH
  try simp only [List.cons_append, List.nil_append] at hH
  subst hH
  refine SPL_y (y_assign rfl) rfl ?_
  refine SPL_nil ?_
  refine inBlockP_n ?_
  refine thenP_n ?_
  refine SP_region ?_
  refine SPL_y (y_add rfl rfl (by omega)) rfl ?_
  refine SPL_y (y_move rfl) rfl ?_
  refine SPL_nil ?_
  refine thenP_n ?_
  have e : num s3 nv = numS P.nimp ++ numS P.min ++ numS P.max ++ (P.funs.take g).flatMap showFun ++ ([70, 32] ++ u.params ++ [62] ++ u.results ++ [43] ++ u.locals ++ [32]) ++ (u.code.take j).flatMap showFlat ++ ([c.op, c.imm, c.keep, c.cut].take (q + 1)).flatMap numS := by
    rw [List.take_add_one, hnx, List.flatMap_append, ← List.append_assoc, hs3e]; simp [num]
  rw [e]
  exact Again.intro (q + 1) (by omega) (by omega) (by repeat (first | exact Sub.nil _ | refine Sub.cons rfl ?_)) (by repeat (first | exact Part.nil _ | (apply Part.cons; (first | exact P0 | exact P1 | exact P2 | exact P3 | exact P4 | exact P5 | exact P6 | exact P7 | exact P8 | exact P9 | exact P10 | exact P11 | exact P12 | exact P13 | exact P14 | exact P15 | exact P16 | exact P17 | exact P18 | exact P19 | exact P20 | exact P21 | exact P22 | exact P23)) | (apply Part.flat; simp only [List.cons_append, List.nil_append]) | (apply Part.nilc)))

end Go.Sl
