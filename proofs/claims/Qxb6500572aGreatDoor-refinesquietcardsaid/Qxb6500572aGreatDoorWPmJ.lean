/- Walks: package prepm, Show (made by program out of short notes) -/
import Derived.Test.Qxb6500572aGreatDoorWPmI
import Derived.Test.Qxb6500572aGreatDoorWShow
namespace Go.Sl
open Go Go.Wl Go.Proofs
set_option maxRecDepth 100000
set_option linter.unusedVariables false
set_option linter.unusedSimpArgs false
end Go.Sl
namespace Go.Wl
open Go Go.Sl
def Fm.flat (f : Fm) : Fun := ⟨f.params, f.results, f.locals, f.code⟩
def Pm.flat (P : Pm) : Prog := ⟨P.nimp, P.min, P.max, P.funs.map Fm.flat⟩
def showFm (f : Fm) : List UInt8 := showFun f.flat
theorem showPm (P : Pm) : showProg P.flat = numS P.nimp ++ numS P.min ++ numS P.max ++ P.funs.flatMap showFm := by
  unfold showProg Pm.flat showFm
  dsimp only
  rw [List.flatMap_map]
theorem Pm.sig_flat (P : Pm) (f : Int) : P.sig f = P.flat.sig f := by
  unfold Pm.sig Prog.sig Pm.flat
  dsimp only
  rw [List.length_map, List.getElem?_map]
  cases P.funs[f.toNat]? <;> rfl
theorem showFm_len {f : Fm} (h : f.params.length ≤ 100 ∧ f.results.length ≤ 100 ∧ f.locals.length ≤ 100 ∧ f.code.length ≤ 1000) : (showFm f).length ≤ 90000 := by
  have h1 := flat_le (l := f.code) (f := showFlat) (k := 88) (fun x _ => showFlat_len x)
  unfold showFm showFun Fm.flat
  simp only [List.length_append, List.length_cons, List.length_nil]
  omega
end Go.Wl
namespace Go.Sl
open Go Go.Wl Go.Proofs
set_option maxRecDepth 100000
set_option linter.unusedVariables false
set_option linter.unusedSimpArgs false
set_option maxHeartbeats 2000000 in
theorem pm_Show (pb : Nat) (fa : Option Addr) (P : Pm) (steps : Int) (s : Seg) (hm : isPm pb fa P steps s) (hB : ProgB P.flat) : Spec Tryz.prog 49 [.pointer (some ⟨pb, 0, none⟩)] [s] (Ret fun v H => v = S (showProg P.flat) ∧ H = [s]) := by
  obtain ⟨fc, sf, sc, cs, rfl, hf, hfn⟩ := hm
  refine Spec_flat ?_
  simp only [List.cons_append, List.nil_append]
  have ha1 : i64ok P.nimp ∧ i64ok P.min ∧ i64ok P.max := hB.a
  have hn1 : P.funs.length ≤ 100 := by have := hB.n; unfold Pm.flat at this; simpa using this
  have hf1 : ∀ u, u ∈ P.funs → u.params.length ≤ 100 ∧ u.results.length ≤ 100 ∧ u.locals.length ≤ 100 ∧ u.code.length ≤ 1000 ∧ ∀ c, c ∈ u.code → i64ok c.op ∧ i64ok c.imm ∧ i64ok c.keep ∧ i64ok c.cut := fun u hu => hB.f u.flat (List.mem_map_of_mem hu)
  have l1 := numS_len P.nimp
  have l2 := numS_len P.min
  have l3 := numS_len P.max
  have hS : ∀ g, ((P.funs.take g).flatMap showFm).length ≤ 9000000 := fun g => by
    have := flat_le (l := P.funs.take g) (f := showFm) (k := 90000) (fun x hx => showFm_len ⟨(hf1 x (List.mem_of_mem_take hx)).1, (hf1 x (List.mem_of_mem_take hx)).2.1, (hf1 x (List.mem_of_mem_take hx)).2.2.1, (hf1 x (List.mem_of_mem_take hx)).2.2.2.1⟩)
    rw [List.length_take] at this
    have : min g P.funs.length * 90000 ≤ 100 * 90000 := Nat.mul_le_mul_right _ (by omega)
    omega
  refine Spec_enter Tryz.func49 rfl Tryz.ntmps49 rfl ?_
  show SP _ _ _ _ _ [(0, _)] _
  refine SP_seq ?_
  refine SP_region ?_
  refine SPL_y (y_assign rfl) rfl ?_
  refine SPL_nil ?_
  refine thenP_n ?_
  refine SP_seq ?_
  refine SP_region ?_
  refine SPL_y (y_move rfl) rfl ?_
  refine SPL_y (y_nil rfl) rfl ?_
  refine SPL_y (y_fa fld_159_0 rfl) rfl ?_
  refine SPL_y (y_load Tryz.isAgg3 rfl (by repeat (first | exact Cell.head rfl | apply Cell.tail))) rfl ?_
  refine SPL_one rfl (SP1_call (api_Num [] P.nimp (by simp) ha1.1.1 ha1.1.2) Tryz.call41 rfl rfl (by repeat (first | exact Part.nil _ | (apply Part.cons; (first | exact P0 | exact P1 | exact P2 | exact P3 | exact P4 | exact P5 | exact P6 | exact P7 | exact P8 | exact P9 | exact P10 | exact P11 | exact P12 | exact P13 | exact P14 | exact P15 | exact P16 | exact P17 | exact P18 | exact P19 | exact P20 | exact P21 | exact P22 | exact P23)) | (apply Part.flat; simp only [List.cons_append, List.nil_append]) | (apply Part.nilc))) ?_)
  rintro v post H' ⟨rfl, rfl⟩ hH
  try simp only [List.cons_append, List.nil_append] at hH
  subst hH
  refine SPL_y (y_assign rfl) rfl ?_
  refine SPL_nil ?_
  refine thenP_n ?_
  refine SP_seq ?_
  refine SP_region ?_
  refine SPL_y (y_move rfl) rfl ?_
  refine SPL_y (y_move rfl) rfl ?_
  refine SPL_y (y_nil rfl) rfl ?_
  refine SPL_y (y_fa fld_159_1 rfl) rfl ?_
  refine SPL_y (y_load Tryz.isAgg3 rfl (by repeat (first | exact Cell.head rfl | apply Cell.tail))) rfl ?_
  refine SPL_one rfl (SP1_call (api_Num (num [] P.nimp) P.min (by simp [num]; omega) ha1.2.1.1 ha1.2.1.2) Tryz.call41 rfl rfl (by repeat (first | exact Part.nil _ | (apply Part.cons; (first | exact P0 | exact P1 | exact P2 | exact P3 | exact P4 | exact P5 | exact P6 | exact P7 | exact P8 | exact P9 | exact P10 | exact P11 | exact P12 | exact P13 | exact P14 | exact P15 | exact P16 | exact P17 | exact P18 | exact P19 | exact P20 | exact P21 | exact P22 | exact P23)) | (apply Part.flat; simp only [List.cons_append, List.nil_append]) | (apply Part.nilc))) ?_)
  rintro v post H' ⟨rfl, rfl⟩ hH
  try simp only [List.cons_append, List.nil_append] at hH
  subst hH
  refine SPL_y (y_assign rfl) rfl ?_
  refine SPL_nil ?_
  refine thenP_n ?_
  refine SP_seq ?_
  refine SP_region ?_
  refine SPL_y (y_move rfl) rfl ?_
  refine SPL_y (y_move rfl) rfl ?_
  refine SPL_y (y_nil rfl) rfl ?_
  refine SPL_y (y_fa fld_159_2 rfl) rfl ?_
  refine SPL_y (y_load Tryz.isAgg3 rfl (by repeat (first | exact Cell.head rfl | apply Cell.tail))) rfl ?_
  refine SPL_one rfl (SP1_call (api_Num (num (num [] P.nimp) P.min) P.max (by simp [num]; omega) ha1.2.2.1 ha1.2.2.2) Tryz.call41 rfl rfl (by repeat (first | exact Part.nil _ | (apply Part.cons; (first | exact P0 | exact P1 | exact P2 | exact P3 | exact P4 | exact P5 | exact P6 | exact P7 | exact P8 | exact P9 | exact P10 | exact P11 | exact P12 | exact P13 | exact P14 | exact P15 | exact P16 | exact P17 | exact P18 | exact P19 | exact P20 | exact P21 | exact P22 | exact P23)) | (apply Part.flat; simp only [List.cons_append, List.nil_append]) | (apply Part.nilc))) ?_)
  rintro v post H' ⟨rfl, rfl⟩ hH
  try simp only [List.cons_append, List.nil_append] at hH
  subst hH
  refine SPL_y (y_assign rfl) rfl ?_
  refine SPL_nil ?_
  refine thenP_n ?_
  refine SP_seq ?_
  refine SP_seq ?_
  refine SP_region ?_
  refine SPL_y (y_assign rfl) rfl ?_
  refine SPL_nil ?_
  refine thenP_n ?_
  refine SP_block ?_
  refine SP_loop (G := Nat × List UInt8) (fun g => P.funs.length - g.1) (fun g => [(0, .pointer (some ⟨pb, 0, none⟩)), (3, S g.2), (4, I g.1)]) (fun g => [blk pb 159 [I P.nimp, I P.min, I P.max, I steps, .slice fa P.funs.length fc], sf, sc]) (fun g => g.1 ≤ P.funs.length ∧ g.2 = numS P.nimp ++ numS P.min ++ numS P.max ++ (P.funs.take g.1).flatMap showFm) ((0, num (num (num [] P.nimp) P.min) P.max)) (⟨Nat.zero_le _, by simp [num]⟩) (by repeat (first | exact Sub.nil _ | refine Sub.cons rfl ?_)) (by repeat (first | exact Part.nil _ | (apply Part.cons; (first | exact P0 | exact P1 | exact P2 | exact P3 | exact P4 | exact P5 | exact P6 | exact P7 | exact P8 | exact P9 | exact P10 | exact P11 | exact P12 | exact P13 | exact P14 | exact P15 | exact P16 | exact P17 | exact P18 | exact P19 | exact P20 | exact P21 | exact P22 | exact P23)) | (apply Part.flat; simp only [List.cons_append, List.nil_append]) | (apply Part.nilc))) ?_
  rintro ⟨g, x⟩ ⟨hg, hx⟩
  dsimp only at hg hx ⊢
  refine SP_seq ?_
  refine SP_seq ?_
  refine SP_region ?_
  refine SPL_y (y_move rfl) rfl ?_
  refine SPL_y (y_move rfl) rfl ?_
  refine SPL_y (y_nil rfl) rfl ?_
  refine SPL_y (y_fa fld_159_4 rfl) rfl ?_
  refine SPL_y (y_load Tryz.isAgg157 rfl (by repeat (first | exact Cell.head rfl | apply Cell.tail))) rfl ?_
  refine SPL_y (y_len_l Tryz.underlying157 rfl) rfl ?_
  refine SPL_ifn (y_lss rfl rfl) rfl ?_ ?_
  · intro h5_6
    refine SPL_nil ?_
    refine thenP_n ?_
    refine SP_cond_f rfl ?_
    refine SP_exit ?_
    refine thenP_exit ?_
    refine thenP_exit ?_
    refine inBlockP_hit ?_
    refine thenP_n ?_
    refine SP_seq ?_
    refine SP_region ?_
    refine SPL_y (y_move rfl) rfl ?_
    refine SPL_y (y_assign rfl) rfl ?_
    refine SPL_nil ?_
    refine thenP_n ?_
    refine SP_ret ?_
    refine bodyP_ret (H' := [List.flatten [blk pb 159 [I P.nimp, I P.min, I P.max, I steps, .slice fa P.funs.length fc], sf, sc]]) (Res1 rfl rfl) (by repeat (first | exact Part.nil _ | (apply Part.cons; (first | exact P0 | exact P1 | exact P2 | exact P3 | exact P4 | exact P5 | exact P6 | exact P7 | exact P8 | exact P9 | exact P10 | exact P11 | exact P12 | exact P13 | exact P14 | exact P15 | exact P16 | exact P17 | exact P18 | exact P19 | exact P20 | exact P21 | exact P22 | exact P23)) | (apply Part.flat; simp only [List.cons_append, List.nil_append]) | (apply Part.nilc))) ?_
    obtain rfl : g = P.funs.length := by omega
    rw [showPm, hx, List.take_of_length_le (Nat.le_refl _)]
    exact ⟨rfl, rfl⟩
  intro h5_6
  refine SPL_nil ?_
  refine thenP_n ?_
  refine SP_cond_t rfl ?_
  refine SP_skip ?_
  refine thenP_n ?_
  refine SP_seq ?_
  refine SP_block ?_
  refine SP_seq ?_
  have hgl : g < P.funs.length := by omega
  obtain ⟨u, hu0⟩ : ∃ u, P.funs[g] = u := ⟨_, rfl⟩
  obtain ⟨bf, spf, rfl, hfc, hspf, rfl⟩ := hf.row (by omega)
  obtain ⟨la, sa, sc2, ca, cc, lb, s1, sv, cd, s2, rfl, hla, rfl, hsv, hcd, hput⟩ := hfn.get hgl
  rw [hu0] at hsv hcd hput ⊢
  have hub := hf1 u (hu0 ▸ List.getElem_mem hgl)
  have hSg := hS g
  refine SP_openAt [s1, sv, cd, s2] (by first | exact P0 | exact P1 | exact P2 | exact P3 | exact P4 | exact P5 | exact P6 | exact P7 | exact P8 | exact P9 | exact P10 | exact P11 | exact P12 | exact P13 | exact P14 | exact P15 | exact P16 | exact P17 | exact P18 | exact P19 | exact P20 | exact P21 | exact P22 | exact P23) ?_
  simp only [List.cons_append, List.nil_append]
  refine SP_region ?_
  refine SPL_y (y_move rfl) rfl ?_
  refine SPL_y (y_nil rfl) rfl ?_
  refine SPL_y (y_fa fld_159_4 rfl) rfl ?_
  refine SPL_y (y_load Tryz.isAgg157 rfl (by repeat (first | exact Cell.head rfl | apply Cell.tail))) rfl ?_
  refine SPL_y (y_move rfl) rfl ?_
  refine SPL_y (y_ia Tryz.underlying157 Tryz.sizeOf164 rfl rfl (by omega)) rfl ?_
  refine SPL_y (y_loads Tryz.isAgg164 Tryz.sizeOf164 rfl rfl (by repeat (first | exact mid_cells (c7 := rowM u sa sc2 ca u.code.length cc) (j := (g : Int)) rfl hla rfl | apply Cells.tail))) rfl ?_
  refine SPL_one rfl (SP1_alloc Tryz.zeroValue164 rfl rfl ?_)
  intro b5
  refine SPL_one rfl (SP1_storeAll Tryz.sizeOf164 rfl rfl rfl rfl rfl (by first | exact U0 | exact U1 | exact U2 | exact U3 | exact U4 | exact U5 | exact U6 | exact U7 | exact U8 | exact U9 | exact U10 | exact U11 | exact U12 | exact U13 | exact U14 | exact U15 | exact U16 | exact U17 | exact U18 | exact U19 | exact U20 | exact U21 | exact U22 | exact U23) (by rfl) ?_)
  refine SPL_nil ?_
  refine thenP_n ?_
  refine SP_seq ?_
  refine SP_region ?_
  refine SPL_y (y_move rfl) rfl ?_
  refine SPL_y (y_cat rfl rfl (by rw [hx]; simp only [List.length_append, List.length_cons, List.length_nil]; omega)) rfl ?_
  refine SPL_y (y_fa fld_164_0 rfl) rfl ?_
  refine SPL_y (y_load Tryz.isAgg9 rfl (by repeat (first | exact Cell.head rfl | apply Cell.tail))) rfl ?_
  refine SPL_y (y_cat rfl rfl (by rw [hx]; simp only [List.length_append, List.length_cons, List.length_nil]; omega)) rfl ?_
  refine SPL_y (y_cat rfl rfl (by rw [hx]; simp only [List.length_append, List.length_cons, List.length_nil]; omega)) rfl ?_
  refine SPL_y (y_fa fld_164_1 rfl) rfl ?_
  refine SPL_y (y_load Tryz.isAgg9 rfl (by repeat (first | exact Cell.head rfl | apply Cell.tail))) rfl ?_
  refine SPL_y (y_cat rfl rfl (by rw [hx]; simp only [List.length_append, List.length_cons, List.length_nil]; omega)) rfl ?_
  refine SPL_y (y_cat rfl rfl (by rw [hx]; simp only [List.length_append, List.length_cons, List.length_nil]; omega)) rfl ?_
  refine SPL_y (y_fa fld_164_2 rfl) rfl ?_
  refine SPL_y (y_load Tryz.isAgg9 rfl (by repeat (first | exact Cell.head rfl | apply Cell.tail))) rfl ?_
  refine SPL_y (y_cat rfl rfl (by rw [hx]; simp only [List.length_append, List.length_cons, List.length_nil]; omega)) rfl ?_
  refine SPL_y (y_cat rfl rfl (by rw [hx]; simp only [List.length_append, List.length_cons, List.length_nil]; omega)) rfl ?_
  refine SPL_y (y_assign rfl) rfl ?_
  refine SPL_nil ?_
  refine thenP_n ?_
  refine SP_seq ?_
  refine SP_region ?_
  refine SPL_y (y_assign rfl) rfl ?_
  refine SPL_nil ?_
  refine thenP_n ?_
  refine SP_block ?_
  refine SP_loop (G := Nat × List UInt8) (fun g => u.code.length - g.1) (fun z => [(0, .pointer (some ⟨pb, 0, none⟩)), (3, S z.2), (4, I g), (5, .pointer (some ⟨b5, 0, none⟩)), (6, I z.1)]) (fun z => [blk pb 159 [I P.nimp, I P.min, I P.max, I steps, .slice (some ⟨bf, 0, none⟩) P.funs.length fc], blk bf 164 (la ++ rowM u sa sc2 ca u.code.length cc ++ lb ++ spf), s1, sv, cd, s2, blk b5 164 (rowM u sa sc2 ca u.code.length cc)]) (fun z => z.1 ≤ u.code.length ∧ z.2 = numS P.nimp ++ numS P.min ++ numS P.max ++ (P.funs.take g).flatMap showFm ++ [70, 32] ++ u.params ++ [62] ++ u.results ++ [43] ++ u.locals ++ [32] ++ (u.code.take z.1).flatMap showFlat) ((0, x ++ [70, 32] ++ u.params ++ [62] ++ u.results ++ [43] ++ u.locals ++ [32])) (⟨Nat.zero_le _, by dsimp only; rw [hx]; simp⟩) (by repeat (first | exact Sub.nil _ | refine Sub.cons rfl ?_)) (by repeat (first | exact Part.nil _ | (apply Part.cons; (first | exact P0 | exact P1 | exact P2 | exact P3 | exact P4 | exact P5 | exact P6 | exact P7 | exact P8 | exact P9 | exact P10 | exact P11 | exact P12 | exact P13 | exact P14 | exact P15 | exact P16 | exact P17 | exact P18 | exact P19 | exact P20 | exact P21 | exact P22 | exact P23)) | (apply Part.flat; simp only [List.cons_append, List.nil_append]) | (apply Part.nilc))) ?_
  rintro ⟨j, y⟩ ⟨hj, hy⟩
  dsimp only at hj hy ⊢
  refine SP_seq ?_
  refine SP_seq ?_
  refine SP_region ?_
  refine SPL_y (y_move rfl) rfl ?_
  refine SPL_y (y_fa fld_164_4 rfl) rfl ?_
  refine SPL_y (y_load Tryz.isAgg106 rfl (by repeat (first | exact Cell.head rfl | apply Cell.tail))) rfl ?_
  refine SPL_y (y_len_l Tryz.underlying106 rfl) rfl ?_
  refine SPL_ifn (y_lss rfl rfl) rfl ?_ ?_
  · intro h10_4
    refine SPL_nil ?_
    refine thenP_n ?_
    refine SP_cond_f rfl ?_
    refine SP_exit ?_
    refine thenP_exit ?_
    refine thenP_exit ?_
    refine inBlockP_hit ?_
    refine inBlockP_n ?_
    refine thenP_n ?_
    refine SP_region ?_
    refine SPL_y (y_move rfl) rfl ?_
    refine SPL_y (y_add rfl rfl (by omega)) rfl ?_
    refine SPL_y (y_assign rfl) rfl ?_
    refine SPL_nil ?_
    refine thenP_n ?_
    obtain rfl : j = u.code.length := by omega
    have e : y = numS P.nimp ++ numS P.min ++ numS P.max ++ (P.funs.take (g + 1)).flatMap showFm := by
      rw [hy, List.take_of_length_le (Nat.le_refl _), List.take_succ_eq_append_getElem hgl, List.flatMap_append, hu0]; simp [showFm, showFun, Fm.flat]
    exact Again.intro ((g + 1, y)) (⟨by dsimp only; omega, e⟩) (by simp only []; omega) (by repeat (first | exact Sub.nil _ | refine Sub.cons rfl ?_)) (by repeat (first | exact Part.nil _ | (apply Part.cons; (first | exact P0 | exact P1 | exact P2 | exact P3 | exact P4 | exact P5 | exact P6 | exact P7 | exact P8 | exact P9 | exact P10 | exact P11 | exact P12 | exact P13 | exact P14 | exact P15 | exact P16 | exact P17 | exact P18 | exact P19 | exact P20 | exact P21 | exact P22 | exact P23)) | (apply Part.flat; simp only [List.cons_append, List.nil_append]) | (apply Part.nilc)))
  intro h10_4
  refine SPL_nil ?_
  refine thenP_n ?_
  refine SP_cond_t rfl ?_
  refine SP_skip ?_
  refine thenP_n ?_
  refine SP_seq ?_
  refine SP_block ?_
  refine SP_seq ?_
  have hjl : j < u.code.length := by omega
  obtain ⟨bc, spc, rfl, hcc, hspc, rfl⟩ := hcd.row (by omega)
  obtain ⟨c, hc⟩ : ∃ c, u.code[j] = c := ⟨_, rfl⟩
  have hcb := hub.2.2.2.2 c (hc ▸ List.getElem_mem hjl)
  have hcl : ((u.code.take j).flatMap showFlat).length ≤ 88000 := by
    have := flat_le (l := u.code.take j) (f := showFlat) (k := 88) (fun x _ => showFlat_len x)
    rw [List.length_take] at this
    have : min j u.code.length * 88 ≤ 1000 * 88 := Nat.mul_le_mul_right _ (by omega)
    omega
  refine SP_region ?_
  refine SPL_y (y_move rfl) rfl ?_
  refine SPL_y (y_fa fld_164_4 rfl) rfl ?_
  refine SPL_y (y_load Tryz.isAgg106 rfl (by repeat (first | exact Cell.head rfl | apply Cell.tail))) rfl ?_
  refine SPL_y (y_move rfl) rfl ?_
  refine SPL_y (y_ia Tryz.underlying106 Tryz.sizeOf181 rfl rfl (by omega)) rfl ?_
  refine SPL_y (y_fa fld_181_0 rfl) rfl ?_
  refine SPL_y (y_load Tryz.isAgg3 rfl (by repeat (first | exact flat_cellE flatV_len (i := j) (q := 0) rfl hjl hc rfl | apply Cell.tail))) rfl ?_
  refine SPL_one rfl (SP1_call (api_Num y c.op (by rw [hy]; simp only [List.length_append, List.length_cons, List.length_nil]; omega) hcb.1.1 hcb.1.2) Tryz.call41 rfl rfl (by repeat (first | exact Part.nil _ | (apply Part.cons; (first | exact P0 | exact P1 | exact P2 | exact P3 | exact P4 | exact P5 | exact P6 | exact P7 | exact P8 | exact P9 | exact P10 | exact P11 | exact P12 | exact P13 | exact P14 | exact P15 | exact P16 | exact P17 | exact P18 | exact P19 | exact P20 | exact P21 | exact P22 | exact P23)) | (apply Part.flat; simp only [List.cons_append, List.nil_append]) | (apply Part.nilc))) ?_)
  rintro v post H' ⟨rfl, rfl⟩ hH
  try simp only [List.cons_append, List.nil_append] at hH
  subst hH
  refine SPL_y (y_assign rfl) rfl ?_
  refine SPL_nil ?_
  refine thenP_n ?_
  refine SP_seq ?_
  refine SP_region ?_
  refine SPL_y (y_move rfl) rfl ?_
  refine SPL_y (y_fa fld_164_4 rfl) rfl ?_
  refine SPL_y (y_load Tryz.isAgg106 rfl (by repeat (first | exact Cell.head rfl | apply Cell.tail))) rfl ?_
  refine SPL_y (y_move rfl) rfl ?_
  refine SPL_y (y_ia Tryz.underlying106 Tryz.sizeOf181 rfl rfl (by omega)) rfl ?_
  refine SPL_y (y_fa fld_181_1 rfl) rfl ?_
  refine SPL_y (y_load Tryz.isAgg3 rfl (by repeat (first | exact flat_cellE flatV_len (i := j) (q := 1) rfl hjl hc rfl | apply Cell.tail))) rfl ?_
  refine SPL_one rfl (SP1_call (api_Num (num y c.op) c.imm (by have := num_len y c.op; have h9 : y.length ≤ 10000000 := (by rw [hy]; simp only [List.length_append, List.length_cons, List.length_nil]; omega); omega) hcb.2.1.1 hcb.2.1.2) Tryz.call41 rfl rfl (by repeat (first | exact Part.nil _ | (apply Part.cons; (first | exact P0 | exact P1 | exact P2 | exact P3 | exact P4 | exact P5 | exact P6 | exact P7 | exact P8 | exact P9 | exact P10 | exact P11 | exact P12 | exact P13 | exact P14 | exact P15 | exact P16 | exact P17 | exact P18 | exact P19 | exact P20 | exact P21 | exact P22 | exact P23)) | (apply Part.flat; simp only [List.cons_append, List.nil_append]) | (apply Part.nilc))) ?_)
  rintro v post H' ⟨rfl, rfl⟩ hH
  try simp only [List.cons_append, List.nil_append] at hH
  subst hH
  refine SPL_y (y_assign rfl) rfl ?_
  refine SPL_nil ?_
  refine thenP_n ?_
  refine SP_seq ?_
  refine SP_region ?_
  refine SPL_y (y_move rfl) rfl ?_
  refine SPL_y (y_fa fld_164_4 rfl) rfl ?_
  refine SPL_y (y_load Tryz.isAgg106 rfl (by repeat (first | exact Cell.head rfl | apply Cell.tail))) rfl ?_
  refine SPL_y (y_move rfl) rfl ?_
  refine SPL_y (y_ia Tryz.underlying106 Tryz.sizeOf181 rfl rfl (by omega)) rfl ?_
  refine SPL_y (y_fa fld_181_2 rfl) rfl ?_
  refine SPL_y (y_load Tryz.isAgg3 rfl (by repeat (first | exact flat_cellE flatV_len (i := j) (q := 2) rfl hjl hc rfl | apply Cell.tail))) rfl ?_
  refine SPL_one rfl (SP1_call (api_Num (num (num y c.op) c.imm) c.keep (by have := num_len y c.op; have := num_len (num y c.op) c.imm; have h9 : y.length ≤ 10000000 := (by rw [hy]; simp only [List.length_append, List.length_cons, List.length_nil]; omega); omega) hcb.2.2.1.1 hcb.2.2.1.2) Tryz.call41 rfl rfl (by repeat (first | exact Part.nil _ | (apply Part.cons; (first | exact P0 | exact P1 | exact P2 | exact P3 | exact P4 | exact P5 | exact P6 | exact P7 | exact P8 | exact P9 | exact P10 | exact P11 | exact P12 | exact P13 | exact P14 | exact P15 | exact P16 | exact P17 | exact P18 | exact P19 | exact P20 | exact P21 | exact P22 | exact P23)) | (apply Part.flat; simp only [List.cons_append, List.nil_append]) | (apply Part.nilc))) ?_)
  rintro v post H' ⟨rfl, rfl⟩ hH
  try simp only [List.cons_append, List.nil_append] at hH
  subst hH
  refine SPL_y (y_assign rfl) rfl ?_
  refine SPL_nil ?_
  refine thenP_n ?_
  refine SP_region ?_
  refine SPL_y (y_move rfl) rfl ?_
  refine SPL_y (y_fa fld_164_4 rfl) rfl ?_
  refine SPL_y (y_load Tryz.isAgg106 rfl (by repeat (first | exact Cell.head rfl | apply Cell.tail))) rfl ?_
  refine SPL_y (y_move rfl) rfl ?_
  refine SPL_y (y_ia Tryz.underlying106 Tryz.sizeOf181 rfl rfl (by omega)) rfl ?_
  refine SPL_y (y_fa fld_181_3 rfl) rfl ?_
  refine SPL_y (y_load Tryz.isAgg3 rfl (by repeat (first | exact flat_cellE flatV_len (i := j) (q := 3) rfl hjl hc rfl | apply Cell.tail))) rfl ?_
  refine SPL_one rfl (SP1_call (api_Num (num (num (num y c.op) c.imm) c.keep) c.cut (by have := num_len y c.op; have := num_len (num y c.op) c.imm; have := num_len (num (num y c.op) c.imm) c.keep; have h9 : y.length ≤ 10000000 := (by rw [hy]; simp only [List.length_append, List.length_cons, List.length_nil]; omega); omega) hcb.2.2.2.1 hcb.2.2.2.2) Tryz.call41 rfl rfl (by repeat (first | exact Part.nil _ | (apply Part.cons; (first | exact P0 | exact P1 | exact P2 | exact P3 | exact P4 | exact P5 | exact P6 | exact P7 | exact P8 | exact P9 | exact P10 | exact P11 | exact P12 | exact P13 | exact P14 | exact P15 | exact P16 | exact P17 | exact P18 | exact P19 | exact P20 | exact P21 | exact P22 | exact P23)) | (apply Part.flat; simp only [List.cons_append, List.nil_append]) | (apply Part.nilc))) ?_)
  rintro v post H' ⟨rfl, rfl⟩ hH
  try simp only [List.cons_append, List.nil_append] at hH
  subst hH
  refine SPL_y (y_assign rfl) rfl ?_
  refine SPL_nil ?_
  refine inBlockP_n ?_
  refine thenP_n ?_
  refine SP_region ?_
  refine SPL_y (y_move rfl) rfl ?_
  refine SPL_y (y_add rfl rfl (by omega)) rfl ?_
  refine SPL_y (y_assign rfl) rfl ?_
  refine SPL_nil ?_
  refine thenP_n ?_
  have e : num (num (num (num y c.op) c.imm) c.keep) c.cut = numS P.nimp ++ numS P.min ++ numS P.max ++ (P.funs.take g).flatMap showFm ++ [70, 32] ++ u.params ++ [62] ++ u.results ++ [43] ++ u.locals ++ [32] ++ (u.code.take (j + 1)).flatMap showFlat := by
    rw [List.take_succ_eq_append_getElem hjl, hc, List.flatMap_append, ← List.append_assoc, ← hy]; simp [num, showFlat]
  exact Again.intro ((j + 1, num (num (num (num y c.op) c.imm) c.keep) c.cut)) (⟨by dsimp only; omega, e⟩) (by simp only []; omega) (by repeat (first | exact Sub.nil _ | refine Sub.cons rfl ?_)) (by repeat (first | exact Part.nil _ | (apply Part.cons; (first | exact P0 | exact P1 | exact P2 | exact P3 | exact P4 | exact P5 | exact P6 | exact P7 | exact P8 | exact P9 | exact P10 | exact P11 | exact P12 | exact P13 | exact P14 | exact P15 | exact P16 | exact P17 | exact P18 | exact P19 | exact P20 | exact P21 | exact P22 | exact P23)) | (apply Part.flat; simp only [List.cons_append, List.nil_append]) | (apply Part.nilc)))

end Go.Sl
