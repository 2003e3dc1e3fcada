/- Walks: package runm, the recursion (made by program out of short notes) -/
import Derived.Test.Qxb6500572aGreatDoorWRmG
namespace Go.Sl
open Go Go.Wl Go.Proofs
set_option maxRecDepth 100000
set_option linter.unusedVariables false
set_option linter.unusedSimpArgs false
theorem word0 {t : UInt8} (h : t = 105 ∨ t = 108) : wv (word t 0) = [.int .u8 t.toNat, I 0] := by
  rcases h with rfl | rfl <;> rfl
theorem isSrc.at {rv : Value} {l : List (List Ins)} {sx : Seg} (h : isSrc rv l sx) {g : Nat} {src : List Ins} (hg : l[g]? = some src) : ∃ ba rc spr cs a c s2, rv = .slice (some ⟨ba, 0, none⟩) l.length rc ∧ sx = List.flatten [blk ba 34 (cs ++ spr), s2] ∧ cs[g]? = some (.slice a src.length c) ∧ SrcAt sx src a c := by
  obtain ⟨ra, rc, cs, sr, sx', rfl, rfl, h1, h2⟩ := h
  have hlt := (List.getElem?_eq_some_iff.1 hg).1
  obtain ⟨ba, spr, rfl, _, _, rfl⟩ := h1.row (by omega)
  obtain ⟨a, c, s1, sv, s2, h3, rfl, h4⟩ := h2.get hg
  exact ⟨ba, rc, spr, cs, a, c, _, rfl, rfl, h3, blk ba 34 (cs ++ spr) ++ s1, sv, s2, by simp, h4⟩
theorem small_tick {R : RS} (h : Small R) : Small R.tick := ⟨h.st, h.tr, h.ak, h.us, h.ok⟩

theorem rm_cutN (x : Nat) (pv rv kv : Value) (E : RE) (R : RS) (s : Seg) (hm : isR x pv rv kv E R s) (h keep : Nat) (hle : h + keep ≤ R.st.length) (hz : R.st.length ≤ 1000000) : Spec Tryz.prog 141 [.pointer (some ⟨x, 0, none⟩), I h, I keep] [s] (Ret fun v H => ∃ s', v = .bool true ∧ H = [s'] ∧ isR x pv rv kv E { R with st := R.st.take h ++ topW R.st keep } s') := by
  have e : R.st = R.st.take h ++ (R.st.take (R.st.length - keep)).drop h ++ topW R.st keep := by
    have h1 : R.st.take h = (R.st.take (R.st.length - keep)).take h := by rw [List.take_take]; congr 1; omega
    rw [h1, List.take_append_drop]
    exact cut_top R.st keep
  have := rm_cut x pv rv kv E R s hm _ _ _ e hz
  rwa [List.length_take, show min h R.st.length = h by omega, topW_len (by omega)] at this

set_option maxHeartbeats 8000000 in
theorem rm_invoke (x pb kb : Nat) (rv : Value) (E : RE) (sp sx : Seg) (hC : RC E pb rv sp sx) (n : Nat) (hQ : SeqOk E x pb kb rv sp sx n) (R : RS) (s sk : Seg) (f depth : Int) (r : Int × RS) (hm : isR x (.pointer (some ⟨pb, 0, none⟩)) rv (.pointer (some ⟨kb, 0, none⟩)) E R s) (hS : Small R) (hk : isMm kb R.mem sk) (hf : i64ok f) (hd : 0 ≤ depth ∧ depth ≤ 100) (hinv : invP E (runM E n) R f depth = some r) : Spec Tryz.prog 107 [pvp x, I f, I depth] [s, sk, sp, sx] (Ret (IPost x pb kb rv E sp sx r)) := by
  obtain ⟨fa, Pn, steps, hp, hPE, hfl⟩ := hC.pm
  have hfu := hC.fu
  have hni := hC.ni
  have hnl := hC.nl
  obtain ⟨hf1, hf2⟩ := hf
  unfold invP at hinv
  split at hinv
  case isFalse => cases hinv
  rename_i hc
  obtain ⟨hlt, hty, hfi, hfs0⟩ := hc
  have hal := topW_len hlt
  have hcl := cutW_len R.st (E.P.sig f).1.length
  have hsz := hS.st
  have hsl3 := hC.sl f
  obtain ⟨⟨qb, qe, Q, qloc⟩, hq, hrest⟩ := Option.bind_eq_some_iff.1 hinv
  clear hinv
  dsimp only at hrest
  obtain ⟨g, hg⟩ : ∃ g : Nat, f - E.P.nimp = g := ⟨(f - E.P.nimp).toNat, by omega⟩
  have hgl : g < E.src.length := by omega
  obtain ⟨src, hsrc⟩ : ∃ src, E.src[g]? = some src := ⟨_, List.getElem?_eq_getElem hgl⟩
  have hsm : src ∈ E.src := List.mem_of_getElem? hsrc
  have hgd : E.src.getD (f - E.P.nimp).toNat [] = src := by rw [hg, Int.toNat_natCast, List.getD_eq_getElem?_getD, hsrc]; rfl
  rw [hgd] at hq
  obtain ⟨ba, rc, spr, cs, ra, rac, s9, rfl, rfl, hcs, hAt⟩ := hC.sx.at hsrc
  have hm0 := hm
  obtain ⟨sa, sc, ss, rfl, hst⟩ := hm
  refine Spec_flat ?_
  simp only [List.cons_append, List.nil_append, instR]
  refine Spec_enter Tryz.func107 rfl Tryz.ntmps107 rfl ?_
  show SP _ _ _ _ _ [(0, _), (1, _), (2, _)] _
  refine SP_seq ?_
  refine SP_region ?_
  refine SPL_y (y_assign rfl) rfl ?_
  refine SPL_nil ?_
  refine thenP_n ?_
  refine SP_seq ?_
  refine SP_region ?_
  refine SPL_y (y_move rfl) rfl ?_
  refine SPL_y (y_nil rfl) rfl ?_
  refine SPL_y (y_fa fld_119_0 rfl) rfl ?_
  refine SPL_y (y_load Tryz.isAgg62 rfl (by repeat (first | exact Cell.head rfl | apply Cell.tail))) rfl ?_
  refine SPL_y (y_move rfl) rfl ?_
  refine SPL_one rfl (SP1_call (pm_SigP pb fa Pn steps sp hp f hfl) Tryz.call104 rfl rfl (by repeat (first | exact Part.nil _ | (apply Part.cons; (first | exact P0 | exact P1 | exact P2 | exact P3 | exact P4 | exact P5 | exact P6 | exact P7 | exact P8 | exact P9 | exact P10 | exact P11 | exact P12 | exact P13 | exact P14 | exact P15 | exact P16 | exact P17 | exact P18 | exact P19 | exact P20 | exact P21 | exact P22 | exact P23)) | (apply Part.flat; simp only [List.cons_append, List.nil_append]) | (apply Part.nilc))) ?_)
  rintro v post H' ⟨rfl, rfl⟩ hH
  try simp only [List.cons_append, List.nil_append] at hH
  subst hH
  rw [Pm.sig_flat, ← hPE]
  refine SPL_y (y_move rfl) rfl ?_
  refine SPL_y (y_ext rfl rfl) rfl ?_
  refine SPL_y (y_ext rfl rfl) rfl ?_
  refine SPL_y (y_ext rfl rfl) rfl ?_
  refine SPL_y (y_ext rfl rfl) rfl ?_
  refine SPL_y (y_assign rfl) rfl ?_
  refine SPL_y (y_assign rfl) rfl ?_
  refine SPL_y (y_assign rfl) rfl ?_
  refine SPL_y (y_assign rfl) rfl ?_
  refine SPL_nil ?_
  refine thenP_n ?_
  refine SP_seq ?_
  refine SP_region ?_
  refine SPL_y (y_move rfl) rfl ?_
  refine SPL_y (y_move rfl) rfl ?_
  refine SPL_one rfl (SP1_call (rm_take x _ _ (.pointer (some ⟨kb, 0, none⟩)) E R _ hm0 (cutW R.st (E.P.sig f).1.length) (topW R.st (E.P.sig f).1.length) (cut_top _ _) _ hty (by omega)) Tryz.call139 rfl rfl (by repeat (first | exact Part.nil _ | (apply Part.cons; (first | exact P0 | exact P1 | exact P2 | exact P3 | exact P4 | exact P5 | exact P6 | exact P7 | exact P8 | exact P9 | exact P10 | exact P11 | exact P12 | exact P13 | exact P14 | exact P15 | exact P16 | exact P17 | exact P18 | exact P19 | exact P20 | exact P21 | exact P22 | exact P23)) | (apply Part.flat; simp only [List.cons_append, List.nil_append]) | (apply Part.nilc))) ?_)
  rintro v post H' ⟨s1, ga, gc, sg, rfl, rfl, hm1, hga⟩ hH
  try simp only [List.cons_append, List.nil_append] at hH
  subst hH
  refine SPL_y (y_move rfl) rfl ?_
  refine SPL_y (y_ext rfl rfl) rfl ?_
  refine SPL_y (y_ext rfl rfl) rfl ?_
  refine SPL_y (y_assign rfl) rfl ?_
  refine SPL_y (y_assign rfl) rfl ?_
  refine SPL_nil ?_
  refine thenP_n ?_
  refine SP_seq ?_
  refine SP_seq ?_
  refine SP_region ?_
  refine SPL_y (y_move rfl) rfl ?_
  refine SPL_y (y_not_t rfl) rfl ?_
  refine SPL_nil ?_
  refine thenP_n ?_
  refine SP_cond_f rfl ?_
  refine SP_skip ?_
  refine thenP_n ?_
  refine SP_seq ?_
  refine SP_seq ?_
  refine SP_region ?_
  refine SPL_y (y_assign rfl) rfl ?_
  refine SPL_nil ?_
  refine thenP_n ?_
  refine SP_block ?_
  refine SP_loop (G := Nat × Option Addr × Nat × Seg) (fun z => (E.P.sig f).2.2.1.length - z.1) (fun z => [(0, pvp x), (1, I f), (2, I depth), (8, S (E.P.sig f).2.1), (9, S (E.P.sig f).2.2.1), (11, .slice z.2.1 ((topW R.st (E.P.sig f).1.length).length + z.1) z.2.2.1), (13, I z.1)]) (fun z => [s1, z.2.2.2, sk, sp, List.flatten [blk ba 34 (cs ++ spr), s9]]) (fun z => z.1 ≤ (E.P.sig f).2.2.1.length ∧ Arr 110 2 z.2.1 ((topW R.st (E.P.sig f).1.length).length + z.1) z.2.2.1 (((topW R.st (E.P.sig f).1.length) ++ ((E.P.sig f).2.2.1.take z.1).map (fun t => word t 0)).flatMap wv) z.2.2.2) ((0, ga, gc, sg)) (⟨Nat.zero_le _, by simpa using hga⟩) (by repeat (first | exact Sub.nil _ | refine Sub.cons rfl ?_)) (by repeat (first | exact Part.nil _ | (apply Part.cons; (first | exact P0 | exact P1 | exact P2 | exact P3 | exact P4 | exact P5 | exact P6 | exact P7 | exact P8 | exact P9 | exact P10 | exact P11 | exact P12 | exact P13 | exact P14 | exact P15 | exact P16 | exact P17 | exact P18 | exact P19 | exact P20 | exact P21 | exact P22 | exact P23)) | (apply Part.flat; simp only [List.cons_append, List.nil_append]) | (apply Part.nilc))) ?_
  rintro ⟨j, la2, lc2, sl2⟩ ⟨hj, hl2⟩
  dsimp only at hj hl2 ⊢
  refine SP_seq ?_
  refine SP_seq ?_
  refine SP_region ?_
  refine SPL_y (y_move rfl) rfl ?_
  refine SPL_y (y_move rfl) rfl ?_
  refine SPL_y (y_len_s Tryz.underlying9 rfl) rfl ?_
  refine SPL_if (y_lss rfl rfl) rfl ?_ ?_
  · intro h6_3
    refine SPL_nil ?_
    refine thenP_n ?_
    refine SP_cond_t rfl ?_
    refine SP_skip ?_
    refine thenP_n ?_
    refine SP_seq ?_
    refine SP_block ?_
    have hjl : j < (E.P.sig f).2.2.1.length := by omega
    refine SP_region ?_
    refine SPL_y (y_move rfl) rfl ?_
    refine SPL_y (y_move rfl) rfl ?_
    refine SPL_y (y_move rfl) rfl ?_
    refine SPL_y (y_idx_s Tryz.underlying9 rfl rfl (by omega) (show (E.P.sig f).2.2.1[((j : Nat) : Int).toNat]? = some (E.P.sig f).2.2.1[j] by rw [Int.toNat_natCast]; exact List.getElem?_eq_getElem hjl)) rfl ?_
    refine SPL_y (y_build B110 rfl rfl (by simp only [fillL, List.foldl_cons, List.foldl_nil, List.set_cons_zero, List.set_cons_succ]; exact rfl)) rfl ?_
    refine SPL_one rfl (SP1_slice1 el_35 rfl rfl rfl rfl rfl ?_)
    intro b48
    refine SPL_one rfl (SP1_append el_35 (.inl Tryz.underlying35) rfl rfl hl2 (by first | exact P0 | exact P1 | exact P2 | exact P3 | exact P4 | exact P5 | exact P6 | exact P7 | exact P8 | exact P9 | exact P10 | exact P11 | exact P12 | exact P13 | exact P14 | exact P15 | exact P16 | exact P17 | exact P18 | exact P19 | exact P20 | exact P21 | exact P22 | exact P23) (Src.of (by repeat (first | exact Cells.all _ | exact Cells.head rfl | apply Cells.tail)) (by rfl)) (by rfl) (by omega) rfl ?_)
    intro la3 lc3 sl3 hl3
    refine SPL_y (y_assign rfl) rfl ?_
    refine SPL_nil ?_
    refine inBlockP_n ?_
    refine thenP_n ?_
    refine SP_region ?_
    refine SPL_y (y_move rfl) rfl ?_
    refine SPL_y (y_add rfl rfl (by omega)) rfl ?_
    refine SPL_y (y_assign rfl) rfl ?_
    refine SPL_nil ?_
    refine thenP_n ?_
    exact Again.intro ((j + 1, la3, lc3, sl3)) (⟨by dsimp only; omega, by dsimp only; rw [List.take_succ_eq_append_getElem hjl, List.map_append, ← List.append_assoc, List.flatMap_append]; simpa [word0 (hC.st f _ (List.getElem_mem hjl)), Nat.add_assoc] using hl3⟩) (by simp only []; omega) (by repeat (first | exact Sub.nil _ | refine Sub.cons rfl ?_)) (by repeat (first | exact Part.nil _ | (apply Part.cons; (first | exact P0 | exact P1 | exact P2 | exact P3 | exact P4 | exact P5 | exact P6 | exact P7 | exact P8 | exact P9 | exact P10 | exact P11 | exact P12 | exact P13 | exact P14 | exact P15 | exact P16 | exact P17 | exact P18 | exact P19 | exact P20 | exact P21 | exact P22 | exact P23)) | (apply Part.flat; simp only [List.cons_append, List.nil_append]) | (apply Part.nilc)))
  intro h6_3
  refine SPL_nil ?_
  refine thenP_n ?_
  refine SP_cond_f rfl ?_
  refine SP_exit ?_
  refine thenP_exit ?_
  refine thenP_exit ?_
  refine inBlockP_hit ?_
  refine thenP_n ?_
  refine SP_seq ?_
  obtain rfl : j = (E.P.sig f).2.2.1.length := by omega
  rw [List.take_of_length_le (Nat.le_refl _)] at hl2
  have hloc2 : Arr 110 2 la2 ((topW R.st (E.P.sig f).1.length) ++ (E.P.sig f).2.2.1.map (fun t => word t 0)).length lc2 (((topW R.st (E.P.sig f).1.length) ++ (E.P.sig f).2.2.1.map (fun t => word t 0)).flatMap wv) sl2 := by
    rw [List.length_append, List.length_map]; exact hl2
  obtain ⟨sa1, sc1, ss1, rfl, hst1⟩ := hm1
  refine SP_openAt [blk x 119 (instR (.pointer (some ⟨pb, 0, none⟩)) (.slice (some ⟨ba, 0, none⟩) E.src.length rc) (.pointer (some ⟨kb, 0, none⟩)) (.slice sa1 { R with st := cutW R.st (E.P.sig f).1.length }.st.length sc1) E { R with st := cutW R.st (E.P.sig f).1.length }), ss1] (by first | exact P0 | exact P1 | exact P2 | exact P3 | exact P4 | exact P5 | exact P6 | exact P7 | exact P8 | exact P9 | exact P10 | exact P11 | exact P12 | exact P13 | exact P14 | exact P15 | exact P16 | exact P17 | exact P18 | exact P19 | exact P20 | exact P21 | exact P22 | exact P23) ?_
  simp only [List.cons_append, List.nil_append, instR]
  refine SP_region ?_
  refine SPL_y (y_move rfl) rfl ?_
  refine SPL_y (y_nil rfl) rfl ?_
  refine SPL_y (y_fa fld_119_3 rfl) rfl ?_
  refine SPL_y (y_load Tryz.isAgg35 rfl (by repeat (first | exact Cell.head rfl | apply Cell.tail))) rfl ?_
  refine SPL_y (y_len_l Tryz.underlying35 rfl) rfl ?_
  refine SPL_y (y_assign rfl) rfl ?_
  refine SPL_nil ?_
  refine thenP_n ?_
  refine SP_seq ?_
  refine SP_region ?_
  refine SPL_y (y_move rfl) rfl ?_
  refine SPL_y (y_nil rfl) rfl ?_
  refine SPL_y (y_fa fld_119_0 rfl) rfl ?_
  refine SPL_y (y_load Tryz.isAgg62 rfl (by repeat (first | exact Cell.head rfl | apply Cell.tail))) rfl ?_
  refine SPL_one rfl (SP1_call (pm_NImports pb fa Pn steps sp hp) Tryz.call105 rfl rfl (by repeat (first | exact Part.nil _ | (apply Part.cons; (first | exact P0 | exact P1 | exact P2 | exact P3 | exact P4 | exact P5 | exact P6 | exact P7 | exact P8 | exact P9 | exact P10 | exact P11 | exact P12 | exact P13 | exact P14 | exact P15 | exact P16 | exact P17 | exact P18 | exact P19 | exact P20 | exact P21 | exact P22 | exact P23)) | (apply Part.flat; simp only [List.cons_append, List.nil_append]) | (apply Part.nilc))) ?_)
  rintro v post H' ⟨rfl, rfl⟩ hH
  try simp only [List.cons_append, List.nil_append] at hH
  subst hH
  rw [show Pn.nimp = E.P.nimp by rw [hPE]; rfl]
  refine SPL_y (y_assign rfl) rfl ?_
  refine SPL_nil ?_
  refine thenP_n ?_
  refine SP_seq ?_
  refine SP_seq ?_
  refine SP_region ?_
  refine SPL_y (y_move rfl) rfl ?_
  refine SPL_y (y_move rfl) rfl ?_
  refine SPL_y (y_lssNo rfl rfl (by omega)) rfl ?_
  refine SPL_y (y_move rfl) rfl ?_
  refine SPL_gy rfl rfl ?_
  refine SPL_y (y_move rfl) rfl ?_
  refine SPL_gy rfl rfl ?_
  refine SPL_y (y_move rfl) rfl ?_
  refine SPL_gy rfl rfl ?_
  refine SPL_y (y_sub rfl rfl (by omega)) rfl ?_
  refine SPL_gy rfl rfl ?_
  refine SPL_y (y_move rfl) rfl ?_
  refine SPL_gy rfl rfl ?_
  refine SPL_y (y_nil rfl) rfl ?_
  refine SPL_gy rfl rfl ?_
  refine SPL_y (y_fa fld_119_1 rfl) rfl ?_
  refine SPL_gy rfl rfl ?_
  refine SPL_y (y_load Tryz.isAgg117 rfl (by repeat (first | exact Cell.head rfl | apply Cell.tail))) rfl ?_
  refine SPL_gy rfl rfl ?_
  refine SPL_y (y_len_l Tryz.underlying117 rfl) rfl ?_
  refine SPL_gy rfl rfl ?_
  refine SPL_y (y_geqNo rfl rfl (by omega)) rfl ?_
  refine SPL_y (y_pick_f rfl rfl) rfl ?_
  refine SPL_nil ?_
  refine thenP_n ?_
  refine SP_cond_f rfl ?_
  refine SP_skip ?_
  refine thenP_n ?_
  refine SP_seq ?_
  have hlc : (topW R.st (E.P.sig f).1.length).length + (E.P.sig f).2.2.1.length = ((topW R.st (E.P.sig f).1.length) ++ (E.P.sig f).2.2.1.map (fun t => word t 0)).length := by rw [List.length_append, List.length_map]
  rw [hlc]
  refine SP_openAt [blk ba 34 (cs ++ spr), s9] (by first | exact P0 | exact P1 | exact P2 | exact P3 | exact P4 | exact P5 | exact P6 | exact P7 | exact P8 | exact P9 | exact P10 | exact P11 | exact P12 | exact P13 | exact P14 | exact P15 | exact P16 | exact P17 | exact P18 | exact P19 | exact P20 | exact P21 | exact P22 | exact P23) ?_
  simp only [List.cons_append, List.nil_append]
  refine SP_region ?_
  refine SPL_y (y_move rfl) rfl ?_
  refine SPL_y (y_move rfl) rfl ?_
  refine SPL_y (y_nil rfl) rfl ?_
  refine SPL_y (y_fa fld_119_1 rfl) rfl ?_
  refine SPL_y (y_load Tryz.isAgg117 rfl (by repeat (first | exact Cell.head rfl | apply Cell.tail))) rfl ?_
  refine SPL_y (y_move rfl) rfl ?_
  refine SPL_y (y_move rfl) rfl ?_
  refine SPL_y (y_subE (c := ((g : Nat) : Int)) rfl rfl (by omega) (by omega)) rfl ?_
  refine SPL_y (y_ia Tryz.underlying117 Tryz.sizeOf34 rfl rfl (by omega)) rfl ?_
  refine SPL_y (y_load Tryz.isAgg34 rfl (by repeat (first | exact row_cellx (show _ = _ by rw [Nat.zero_add, Int.toNat_natCast, Nat.mul_one]; exact hcs) | apply Cell.tail))) rfl ?_
  refine SPL_y (y_move rfl) rfl ?_
  refine SPL_y (y_move rfl) rfl ?_
  refine SPL_one rfl (SP1_call (hQ { R with st := cutW R.st (E.P.sig f).1.length } _ la2 lc2 ((topW R.st (E.P.sig f).1.length) ++ (E.P.sig f).2.2.1.map (fun t => word t 0)) sl2 sk src ra rac 0 0 depth 0 0 (qb, qe, Q, qloc) (⟨sa1, sc1, ss1, rfl, hst1⟩ : isR x (.pointer (some ⟨pb, 0, none⟩)) (.slice (some ⟨ba, 0, none⟩) E.src.length rc) (.pointer (some ⟨kb, 0, none⟩)) E { R with st := cutW R.st (E.P.sig f).1.length } (List.flatten [blk x 119 (instR (.pointer (some ⟨pb, 0, none⟩)) (.slice (some ⟨ba, 0, none⟩) E.src.length rc) (.pointer (some ⟨kb, 0, none⟩)) (.slice sa1 { R with st := cutW R.st (E.P.sig f).1.length }.st.length sc1) E { R with st := cutW R.st (E.P.sig f).1.length }), ss1])) hloc2 (by simp; omega) hk hsm hAt hd hq) Tryz.call140 rfl rfl (by repeat (first | exact Part.nil _ | (apply Part.cons; (first | exact P0 | exact P1 | exact P2 | exact P3 | exact P4 | exact P5 | exact P6 | exact P7 | exact P8 | exact P9 | exact P10 | exact P11 | exact P12 | exact P13 | exact P14 | exact P15 | exact P16 | exact P17 | exact P18 | exact P19 | exact P20 | exact P21 | exact P22 | exact P23)) | (apply Part.flat; simp only [List.cons_append, List.nil_append]) | (apply Part.nilc))) ?_)
  rintro v post H' ⟨s2, sl3, sk3, st', rfl, rfl, hm2, hst', hl3, hk3⟩ hH
  try simp only [List.cons_append, List.nil_append] at hH
  subst hH
  dsimp only at hm2 hst' hk3 ⊢
  refine SPL_y (y_move rfl) rfl ?_
  refine SPL_y (y_ext rfl rfl) rfl ?_
  refine SPL_y (y_ext rfl rfl) rfl ?_
  refine SPL_y (y_assign rfl) rfl ?_
  refine SPL_y (y_assign rfl) rfl ?_
  refine SPL_nil ?_
  refine thenP_n ?_
  refine SP_seq ?_
  refine SP_seq ?_
  refine SP_region ?_
  refine SPL_y (y_move rfl) rfl ?_
  refine SPL_if (y_neq rfl rfl) rfl ?_ ?_
  · intro h14_1
    refine SPL_nil ?_
    refine thenP_n ?_
    refine SP_cond_t rfl ?_
    refine SP_seq ?_
    refine SP_region ?_
    refine SPL_y (y_move rfl) rfl ?_
    refine SPL_y (y_assign rfl) rfl ?_
    refine SPL_nil ?_
    refine thenP_n ?_
    refine SP_ret ?_
    refine thenP_ret (bodyP_ret (H' := [s2, sk3, sp, List.flatten [blk ba 34 (cs ++ spr), s9]]) (Res1 rfl rfl) (by repeat (first | exact Part.nil _ | (apply Part.cons; (first | exact P0 | exact P1 | exact P2 | exact P3 | exact P4 | exact P5 | exact P6 | exact P7 | exact P8 | exact P9 | exact P10 | exact P11 | exact P12 | exact P13 | exact P14 | exact P15 | exact P16 | exact P17 | exact P18 | exact P19 | exact P20 | exact P21 | exact P22 | exact P23)) | (apply Part.flat; simp only [List.cons_append, List.nil_append]) | (apply Part.nilc))) ?_)
    rw [if_pos h14_1] at hrest
    simp only [Option.some.injEq] at hrest
    subst hrest
    exact ⟨_, _, st', rfl, rfl, hm2, hst', hk3⟩
  intro h14_1
  refine SPL_nil ?_
  refine thenP_n ?_
  refine SP_cond_f rfl ?_
  refine SP_skip ?_
  refine thenP_n ?_
  refine SP_seq ?_
  refine SP_seq ?_
  obtain rfl : qe = 0 := Decidable.not_not.1 h14_1
  obtain rfl : st' = Q.st := hst' rfl
  have hm2 : isR x (.pointer (some ⟨pb, 0, none⟩)) (.slice (some ⟨ba, 0, none⟩) E.src.length rc) (.pointer (some ⟨kb, 0, none⟩)) E Q s2 := hm2
  rw [if_neg (by simp)] at hrest
  refine SP_region ?_
  refine SPL_y (y_move rfl) rfl ?_
  refine SPL_if (y_gtr rfl rfl) rfl ?_ ?_
  · intro h16_1
    rw [if_pos h16_1] at hrest
    cases hrest
  intro h16_1
  refine SPL_nil ?_
  refine thenP_n ?_
  refine SP_cond_f rfl ?_
  refine SP_skip ?_
  refine thenP_n ?_
  refine SP_seq ?_
  refine SP_seq ?_
  rw [if_neg h16_1] at hrest
  refine SP_region ?_
  refine SPL_y (y_move rfl) rfl ?_
  refine SPL_ifn (y_neq rfl rfl) rfl ?_ ?_
  · intro h18_1
    refine SPL_nil ?_
    refine thenP_n ?_
    refine SP_cond_f rfl ?_
    refine SP_skip ?_
    refine thenP_n ?_
    refine SP_seq ?_
    refine SP_seq ?_
    rw [if_pos (Decidable.not_not.1 h18_1)] at hrest
    split at hrest
    case isFalse => cases hrest
    rename_i hfin
    simp only [Option.some.injEq] at hrest
    subst hrest
    rw [hcl]
    refine SP_region ?_
    refine SPL_y (y_move rfl) rfl ?_
    refine SPL_y (y_move rfl) rfl ?_
    refine SPL_y (y_move rfl) rfl ?_
    refine SPL_y (y_len_s Tryz.underlying9 rfl) rfl ?_
    refine SPL_one rfl (SP1_call (rm_cutN x (.pointer (some ⟨pb, 0, none⟩)) (.slice (some ⟨ba, 0, none⟩) E.src.length rc) (.pointer (some ⟨kb, 0, none⟩)) E Q _ hm2 (R.st.length - (E.P.sig f).1.length) (E.P.sig f).2.1.length hfin.1 hfin.2.1) Tryz.call141 rfl rfl (by repeat (first | exact Part.nil _ | (apply Part.cons; (first | exact P0 | exact P1 | exact P2 | exact P3 | exact P4 | exact P5 | exact P6 | exact P7 | exact P8 | exact P9 | exact P10 | exact P11 | exact P12 | exact P13 | exact P14 | exact P15 | exact P16 | exact P17 | exact P18 | exact P19 | exact P20 | exact P21 | exact P22 | exact P23)) | (apply Part.flat; simp only [List.cons_append, List.nil_append]) | (apply Part.nilc))) ?_)
    rintro v post H' ⟨s4, rfl, rfl, hm4⟩ hH
    try simp only [List.cons_append, List.nil_append] at hH
    subst hH
    refine SPL_y (y_not_t rfl) rfl ?_
    refine SPL_nil ?_
    refine thenP_n ?_
    refine SP_cond_f rfl ?_
    refine SP_skip ?_
    refine thenP_n ?_
    refine SP_seq ?_
    refine SP_seq ?_
    obtain ⟨Rf, hRf⟩ : ∃ z, ({ Q with st := Q.st.take (R.st.length - (E.P.sig f).1.length) ++ topW Q.st (E.P.sig f).2.1.length } : RS) = z := ⟨_, rfl⟩
    have hfs : Rf.st = Q.st.take (R.st.length - (E.P.sig f).1.length) ++ topW Q.st (E.P.sig f).2.1.length := by rw [← hRf]
    have hfl2 : Rf.st.length = (R.st.length - (E.P.sig f).1.length) + (E.P.sig f).2.1.length := by rw [hfs, List.length_append, List.length_take, topW_len (by omega)]; omega
    rw [hRf] at hm4
    rw [hRf]
    obtain ⟨sa4, sc4, ss4, rfl, hst4⟩ := hm4
    refine SP_openAt [blk x 119 (instR (.pointer (some ⟨pb, 0, none⟩)) (.slice (some ⟨ba, 0, none⟩) E.src.length rc) (.pointer (some ⟨kb, 0, none⟩)) (.slice sa4 Rf.st.length sc4) E Rf), ss4] (by first | exact P0 | exact P1 | exact P2 | exact P3 | exact P4 | exact P5 | exact P6 | exact P7 | exact P8 | exact P9 | exact P10 | exact P11 | exact P12 | exact P13 | exact P14 | exact P15 | exact P16 | exact P17 | exact P18 | exact P19 | exact P20 | exact P21 | exact P22 | exact P23) ?_
    simp only [List.cons_append, List.nil_append, instR]
    refine SP_draw 999 [(0, 0), (1, 0), (2, 0), (3, 0), (4, 0), (5, 0), (6, 0), (8, 0), (12, 0), (13, 0), (7, 1), (9, 0), (10, 0), (11, 1), (14, 0), (15, 0)] mixed (by kernel_rfl) (fun _ _ _ _ _ h => h) (Part.refl _) ?_
    refine SPO_p rfl (y_move rfl) rfl ?_
    refine SPO_p rfl (y_len_s Tryz.underlying9 rfl) rfl ?_
    refine SPO_ifn rfl (y_eql rfl rfl) rfl ?_ ?_
    · intro h22_2
      refine SPO_p rfl (y_move rfl) rfl ?_
      refine SPO_gn (.inl rfl) rfl rfl rfl rfl rfl ?_
      refine SPO_gn (.inl rfl) rfl rfl rfl rfl rfl ?_
      refine SPO_gn (.inl rfl) rfl rfl rfl rfl rfl ?_
      refine SPO_gn (.inl rfl) rfl rfl rfl rfl rfl ?_
      refine SPO_gn (.inl rfl) rfl rfl rfl rfl rfl ?_
      refine SPO_gn (.inl rfl) rfl rfl rfl rfl rfl ?_
      refine SPO_gn (.inr rfl) rfl rfl rfl rfl rfl ?_
      refine SPO_gn (.inl rfl) rfl rfl rfl rfl rfl ?_
      refine SPO_gn (.inl rfl) rfl rfl rfl rfl rfl ?_
      refine SPO_gn (.inr rfl) rfl rfl rfl rfl rfl ?_
      refine SPO_gn (.inl rfl) rfl rfl rfl rfl rfl ?_
      refine SPO_p rfl (y_pick_f rfl rfl) rfl ?_
      refine SPO_nil ?_
      refine thenP_n ?_
      refine SP_cond_f rfl ?_
      refine SP_skip ?_
      refine thenP_n ?_
      refine SP_seq ?_
      refine SP_region ?_
      refine SPL_y (y_assign rfl) rfl ?_
      refine SPL_nil ?_
      refine thenP_n ?_
      refine SP_ret ?_
      refine bodyP_ret (H' := [List.flatten [blk x 119 (instR (.pointer (some ⟨pb, 0, none⟩)) (.slice (some ⟨ba, 0, none⟩) E.src.length rc) (.pointer (some ⟨kb, 0, none⟩)) (.slice sa4 Rf.st.length sc4) E Rf), ss4], sk3, sp, List.flatten [blk ba 34 (cs ++ spr), s9]]) (Res1 rfl rfl) (by repeat (first | exact Part.nil _ | (apply Part.cons; (first | exact P0 | exact P1 | exact P2 | exact P3 | exact P4 | exact P5 | exact P6 | exact P7 | exact P8 | exact P9 | exact P10 | exact P11 | exact P12 | exact P13 | exact P14 | exact P15 | exact P16 | exact P17 | exact P18 | exact P19 | exact P20 | exact P21 | exact P22 | exact P23)) | (apply Part.flat; simp only [List.cons_append, List.nil_append]) | (apply Part.nilc))) ?_
      subst hRf
      exact ⟨_, _, _, rfl, rfl, ⟨sa4, sc4, ss4, rfl, hst4⟩, fun _ => rfl, hk3⟩
    intro h22_2
    refine SPO_p rfl (y_move rfl) rfl ?_
    refine SPO_py rfl rfl rfl (y_move rfl) rfl ?_
    refine SPO_py rfl rfl rfl (y_nil rfl) rfl ?_
    refine SPO_py rfl rfl rfl (y_fa fld_119_3 rfl) rfl ?_
    refine SPO_py rfl rfl rfl (y_move rfl) rfl ?_
    refine SPO_py rfl rfl rfl (y_move rfl) rfl ?_
    refine SPO_py rfl rfl rfl (y_idx_s Tryz.underlying9 rfl rfl (by omega) (show (E.P.sig f).2.1[(0 : Int).toNat]? = some (E.P.sig f).2.1[0] from List.getElem?_eq_getElem _)) rfl ?_
    refine SPO_hy rfl rfl rfl (y_load Tryz.isAgg35 rfl (by repeat (first | exact Cell.head rfl | apply Cell.tail))) rfl ?_
    have hk1 : (E.P.sig f).2.1.length = 1 := by omega
    have hi5 : (R.st.length - (E.P.sig f).1.length) < Rf.st.length := by omega
    obtain ⟨bs, sps, rfl, hsc4, hsps4, rfl⟩ := hst4.row (by omega)
    obtain ⟨z, hz5⟩ : ∃ z, Rf.st[(R.st.length - (E.P.sig f).1.length)] = z := ⟨_, rfl⟩
    have hgt : z.t = (E.P.sig f).2.1[0] := by
      have h1 := congrArg (fun l => l[0]?) hfin.2.2
      have h2 : (topW Q.st (E.P.sig f).2.1.length)[0]? = some z := by
        rw [← hz5, ← List.getElem?_eq_getElem hi5, hfs, List.getElem?_append_right (by rw [List.length_take]; omega)]
        congr 1; rw [List.length_take]; omega
      simp only [List.getElem?_map, h2, Option.map_some, List.getElem?_eq_getElem (show 0 < (E.P.sig f).2.1.length by omega), Option.some.injEq] at h1
      exact h1
    refine SPO_py rfl rfl rfl (y_ia Tryz.underlying35 Tryz.sizeOf110 rfl rfl (by omega)) rfl ?_
    refine SPO_py rfl rfl rfl (y_fa fld_110_0 rfl) rfl ?_
    refine SPO_hy rfl rfl rfl (y_load Tryz.isAgg5 rfl (by repeat (first | exact flat_cellE wv_len (i := (R.st.length - (E.P.sig f).1.length)) (q := 0) (by omega) hi5 hz5 rfl | apply Cell.tail))) rfl ?_
    refine SPO_py rfl rfl rfl (y_neqNo rfl rfl (fun h => h (by rw [hgt]))) rfl ?_
    refine SPO_p rfl (y_pick_t rfl rfl) rfl ?_
    refine SPO_nil ?_
    refine thenP_n ?_
    refine SP_cond_f rfl ?_
    refine SP_skip ?_
    refine thenP_n ?_
    refine SP_seq ?_
    refine SP_region ?_
    refine SPL_y (y_assign rfl) rfl ?_
    refine SPL_nil ?_
    refine thenP_n ?_
    refine SP_ret ?_
    refine bodyP_ret (H' := [List.flatten [blk x 119 (instR (.pointer (some ⟨pb, 0, none⟩)) (.slice (some ⟨ba, 0, none⟩) E.src.length rc) (.pointer (some ⟨kb, 0, none⟩)) (.slice (some ⟨bs, 0, none⟩) Rf.st.length sc4) E Rf), blk bs 110 (Rf.st.flatMap wv ++ sps)], sk3, sp, List.flatten [blk ba 34 (cs ++ spr), s9]]) (Res1 rfl rfl) (by repeat (first | exact Part.nil _ | (apply Part.cons; (first | exact P0 | exact P1 | exact P2 | exact P3 | exact P4 | exact P5 | exact P6 | exact P7 | exact P8 | exact P9 | exact P10 | exact P11 | exact P12 | exact P13 | exact P14 | exact P15 | exact P16 | exact P17 | exact P18 | exact P19 | exact P20 | exact P21 | exact P22 | exact P23)) | (apply Part.flat; simp only [List.cons_append, List.nil_append]) | (apply Part.nilc))) ?_
    subst hRf
    exact ⟨_, _, _, rfl, rfl, ⟨_, sc4, _, rfl, hst4⟩, fun _ => rfl, hk3⟩
  intro h18_1
  refine SPL_nil ?_
  refine thenP_n ?_
  refine SP_cond_t rfl ?_
  rw [if_neg h18_1] at hrest
  obtain ⟨sa2, sc2, ss2, rfl, hst2⟩ := hm2
  refine SP_openAt [blk x 119 (instR (.pointer (some ⟨pb, 0, none⟩)) (.slice (some ⟨ba, 0, none⟩) E.src.length rc) (.pointer (some ⟨kb, 0, none⟩)) (.slice sa2 Q.st.length sc2) E Q), ss2] (by first | exact P0 | exact P1 | exact P2 | exact P3 | exact P4 | exact P5 | exact P6 | exact P7 | exact P8 | exact P9 | exact P10 | exact P11 | exact P12 | exact P13 | exact P14 | exact P15 | exact P16 | exact P17 | exact P18 | exact P19 | exact P20 | exact P21 | exact P22 | exact P23) ?_
  simp only [List.cons_append, List.nil_append, instR]
  refine SP_region ?_
  refine SPL_y (y_move rfl) rfl ?_
  refine SPL_y (y_nil rfl) rfl ?_
  refine SPL_y (y_fa fld_119_6 rfl) rfl ?_
  refine SPL_y (y_load Tryz.isAgg3 rfl (by repeat (first | exact Cell.head rfl | apply Cell.tail))) rfl ?_
  refine SPL_y (y_addw rfl rfl rfl) rfl ?_
  refine SPL_y (y_nil rfl) rfl ?_
  refine SPL_y (y_fa fld_119_6 rfl) rfl ?_
  refine SPL_one rfl (SP1_store Tryz.sizeOf3 rfl rfl rfl (by first | exact U0 | exact U1 | exact U2 | exact U3 | exact U4 | exact U5 | exact U6 | exact U7 | exact U8 | exact U9 | exact U10 | exact U11 | exact U12 | exact U13 | exact U14 | exact U15 | exact U16 | exact U17 | exact U18 | exact U19 | exact U20 | exact U21 | exact U22 | exact U23) (by rfl) ?_)
  refine SPL_nil ?_
  refine thenP_n ?_
  refine SP_seq ?_
  refine SP_seq ?_
  split at hrest
  case isFalse => cases hrest
  rename_i hfin
  simp only [Option.some.injEq] at hrest
  subst hrest
  rw [hcl]
  refine SP_region ?_
  refine SPL_y (y_move rfl) rfl ?_
  refine SPL_y (y_move rfl) rfl ?_
  refine SPL_y (y_move rfl) rfl ?_
  refine SPL_y (y_len_s Tryz.underlying9 rfl) rfl ?_
  refine SPL_one rfl (SP1_call (rm_cutN x (.pointer (some ⟨pb, 0, none⟩)) (.slice (some ⟨ba, 0, none⟩) E.src.length rc) (.pointer (some ⟨kb, 0, none⟩)) E Q.tick _ (⟨sa2, sc2, ss2, rfl, hst2⟩ : isR x (.pointer (some ⟨pb, 0, none⟩)) (.slice (some ⟨ba, 0, none⟩) E.src.length rc) (.pointer (some ⟨kb, 0, none⟩)) E Q.tick (List.flatten [blk x 119 (instR (.pointer (some ⟨pb, 0, none⟩)) (.slice (some ⟨ba, 0, none⟩) E.src.length rc) (.pointer (some ⟨kb, 0, none⟩)) (.slice sa2 Q.tick.st.length sc2) E Q.tick), ss2])) (R.st.length - (E.P.sig f).1.length) (E.P.sig f).2.1.length hfin.1 hfin.2.1) Tryz.call141 rfl rfl (by repeat (first | exact Part.nil _ | (apply Part.cons; (first | exact P0 | exact P1 | exact P2 | exact P3 | exact P4 | exact P5 | exact P6 | exact P7 | exact P8 | exact P9 | exact P10 | exact P11 | exact P12 | exact P13 | exact P14 | exact P15 | exact P16 | exact P17 | exact P18 | exact P19 | exact P20 | exact P21 | exact P22 | exact P23)) | (apply Part.flat; simp only [List.cons_append, List.nil_append]) | (apply Part.nilc))) ?_)
  rintro v post H' ⟨s4, rfl, rfl, hm4⟩ hH
  try simp only [List.cons_append, List.nil_append] at hH
  subst hH
  refine SPL_y (y_not_t rfl) rfl ?_
  refine SPL_nil ?_
  refine thenP_n ?_
  refine SP_cond_f rfl ?_
  refine SP_skip ?_
  refine thenP_n ?_
  refine SP_seq ?_
  refine SP_seq ?_
  obtain ⟨Rf, hRf⟩ : ∃ z, ({ Q.tick with st := Q.tick.st.take (R.st.length - (E.P.sig f).1.length) ++ topW Q.tick.st (E.P.sig f).2.1.length } : RS) = z := ⟨_, rfl⟩
  have hfs : Rf.st = Q.tick.st.take (R.st.length - (E.P.sig f).1.length) ++ topW Q.tick.st (E.P.sig f).2.1.length := by rw [← hRf]
  have hfl2 : Rf.st.length = (R.st.length - (E.P.sig f).1.length) + (E.P.sig f).2.1.length := by rw [hfs, List.length_append, List.length_take, topW_len (by omega)]; omega
  rw [hRf] at hm4
  rw [hRf]
  obtain ⟨sa4, sc4, ss4, rfl, hst4⟩ := hm4
  refine SP_openAt [blk x 119 (instR (.pointer (some ⟨pb, 0, none⟩)) (.slice (some ⟨ba, 0, none⟩) E.src.length rc) (.pointer (some ⟨kb, 0, none⟩)) (.slice sa4 Rf.st.length sc4) E Rf), ss4] (by first | exact P0 | exact P1 | exact P2 | exact P3 | exact P4 | exact P5 | exact P6 | exact P7 | exact P8 | exact P9 | exact P10 | exact P11 | exact P12 | exact P13 | exact P14 | exact P15 | exact P16 | exact P17 | exact P18 | exact P19 | exact P20 | exact P21 | exact P22 | exact P23) ?_
  simp only [List.cons_append, List.nil_append, instR]
  refine SP_draw 999 [(0, 0), (1, 0), (2, 0), (3, 0), (4, 0), (5, 0), (6, 0), (8, 0), (12, 0), (13, 0), (7, 1), (9, 0), (10, 0), (11, 1), (14, 0), (15, 0)] mixed (by kernel_rfl) (fun _ _ _ _ _ h => h) (Part.refl _) ?_
  refine SPO_p rfl (y_move rfl) rfl ?_
  refine SPO_p rfl (y_len_s Tryz.underlying9 rfl) rfl ?_
  refine SPO_ifn rfl (y_eql rfl rfl) rfl ?_ ?_
  · intro h22_2
    refine SPO_p rfl (y_move rfl) rfl ?_
    refine SPO_gn (.inl rfl) rfl rfl rfl rfl rfl ?_
    refine SPO_gn (.inl rfl) rfl rfl rfl rfl rfl ?_
    refine SPO_gn (.inl rfl) rfl rfl rfl rfl rfl ?_
    refine SPO_gn (.inl rfl) rfl rfl rfl rfl rfl ?_
    refine SPO_gn (.inl rfl) rfl rfl rfl rfl rfl ?_
    refine SPO_gn (.inl rfl) rfl rfl rfl rfl rfl ?_
    refine SPO_gn (.inr rfl) rfl rfl rfl rfl rfl ?_
    refine SPO_gn (.inl rfl) rfl rfl rfl rfl rfl ?_
    refine SPO_gn (.inl rfl) rfl rfl rfl rfl rfl ?_
    refine SPO_gn (.inr rfl) rfl rfl rfl rfl rfl ?_
    refine SPO_gn (.inl rfl) rfl rfl rfl rfl rfl ?_
    refine SPO_p rfl (y_pick_f rfl rfl) rfl ?_
    refine SPO_nil ?_
    refine thenP_n ?_
    refine SP_cond_f rfl ?_
    refine SP_skip ?_
    refine thenP_n ?_
    refine SP_seq ?_
    refine SP_region ?_
    refine SPL_y (y_assign rfl) rfl ?_
    refine SPL_nil ?_
    refine thenP_n ?_
    refine SP_ret ?_
    refine bodyP_ret (H' := [List.flatten [blk x 119 (instR (.pointer (some ⟨pb, 0, none⟩)) (.slice (some ⟨ba, 0, none⟩) E.src.length rc) (.pointer (some ⟨kb, 0, none⟩)) (.slice sa4 Rf.st.length sc4) E Rf), ss4], sk3, sp, List.flatten [blk ba 34 (cs ++ spr), s9]]) (Res1 rfl rfl) (by repeat (first | exact Part.nil _ | (apply Part.cons; (first | exact P0 | exact P1 | exact P2 | exact P3 | exact P4 | exact P5 | exact P6 | exact P7 | exact P8 | exact P9 | exact P10 | exact P11 | exact P12 | exact P13 | exact P14 | exact P15 | exact P16 | exact P17 | exact P18 | exact P19 | exact P20 | exact P21 | exact P22 | exact P23)) | (apply Part.flat; simp only [List.cons_append, List.nil_append]) | (apply Part.nilc))) ?_
    subst hRf
    exact ⟨_, _, _, rfl, rfl, ⟨sa4, sc4, ss4, rfl, hst4⟩, fun _ => rfl, hk3⟩
  intro h22_2
  refine SPO_p rfl (y_move rfl) rfl ?_
  refine SPO_py rfl rfl rfl (y_move rfl) rfl ?_
  refine SPO_py rfl rfl rfl (y_nil rfl) rfl ?_
  refine SPO_py rfl rfl rfl (y_fa fld_119_3 rfl) rfl ?_
  refine SPO_py rfl rfl rfl (y_move rfl) rfl ?_
  refine SPO_py rfl rfl rfl (y_move rfl) rfl ?_
  refine SPO_py rfl rfl rfl (y_idx_s Tryz.underlying9 rfl rfl (by omega) (show (E.P.sig f).2.1[(0 : Int).toNat]? = some (E.P.sig f).2.1[0] from List.getElem?_eq_getElem _)) rfl ?_
  refine SPO_hy rfl rfl rfl (y_load Tryz.isAgg35 rfl (by repeat (first | exact Cell.head rfl | apply Cell.tail))) rfl ?_
  have hk1 : (E.P.sig f).2.1.length = 1 := by omega
  have hi5 : (R.st.length - (E.P.sig f).1.length) < Rf.st.length := by omega
  obtain ⟨bs, sps, rfl, hsc4, hsps4, rfl⟩ := hst4.row (by omega)
  obtain ⟨z, hz5⟩ : ∃ z, Rf.st[(R.st.length - (E.P.sig f).1.length)] = z := ⟨_, rfl⟩
  have hgt : z.t = (E.P.sig f).2.1[0] := by
    have h1 := congrArg (fun l => l[0]?) hfin.2.2
    have h2 : (topW Q.tick.st (E.P.sig f).2.1.length)[0]? = some z := by
      rw [← hz5, ← List.getElem?_eq_getElem hi5, hfs, List.getElem?_append_right (by rw [List.length_take]; omega)]
      congr 1; rw [List.length_take]; omega
    simp only [List.getElem?_map, h2, Option.map_some, List.getElem?_eq_getElem (show 0 < (E.P.sig f).2.1.length by omega), Option.some.injEq] at h1
    exact h1
  refine SPO_py rfl rfl rfl (y_ia Tryz.underlying35 Tryz.sizeOf110 rfl rfl (by omega)) rfl ?_
  refine SPO_py rfl rfl rfl (y_fa fld_110_0 rfl) rfl ?_
  refine SPO_hy rfl rfl rfl (y_load Tryz.isAgg5 rfl (by repeat (first | exact flat_cellE wv_len (i := (R.st.length - (E.P.sig f).1.length)) (q := 0) (by omega) hi5 hz5 rfl | apply Cell.tail))) rfl ?_
  refine SPO_py rfl rfl rfl (y_neqNo rfl rfl (fun h => h (by rw [hgt]))) rfl ?_
  refine SPO_p rfl (y_pick_t rfl rfl) rfl ?_
  refine SPO_nil ?_
  refine thenP_n ?_
  refine SP_cond_f rfl ?_
  refine SP_skip ?_
  refine thenP_n ?_
  refine SP_seq ?_
  refine SP_region ?_
  refine SPL_y (y_assign rfl) rfl ?_
  refine SPL_nil ?_
  refine thenP_n ?_
  refine SP_ret ?_
  refine bodyP_ret (H' := [List.flatten [blk x 119 (instR (.pointer (some ⟨pb, 0, none⟩)) (.slice (some ⟨ba, 0, none⟩) E.src.length rc) (.pointer (some ⟨kb, 0, none⟩)) (.slice (some ⟨bs, 0, none⟩) Rf.st.length sc4) E Rf), blk bs 110 (Rf.st.flatMap wv ++ sps)], sk3, sp, List.flatten [blk ba 34 (cs ++ spr), s9]]) (Res1 rfl rfl) (by repeat (first | exact Part.nil _ | (apply Part.cons; (first | exact P0 | exact P1 | exact P2 | exact P3 | exact P4 | exact P5 | exact P6 | exact P7 | exact P8 | exact P9 | exact P10 | exact P11 | exact P12 | exact P13 | exact P14 | exact P15 | exact P16 | exact P17 | exact P18 | exact P19 | exact P20 | exact P21 | exact P22 | exact P23)) | (apply Part.flat; simp only [List.cons_append, List.nil_append]) | (apply Part.nilc))) ?_
  subst hRf
  exact ⟨_, _, _, rfl, rfl, ⟨_, sc4, _, rfl, hst4⟩, fun _ => rfl, hk3⟩

end Go.Sl
