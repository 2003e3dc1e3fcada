/- Walks: package vm, a new frame (made by program out of short notes) -/
import Derived.Test.Qxb6500573aGreatDoorWVmI
import Derived.Test.Qxb6500573aGreatDoorSlAp
namespace Go.Sl
open Go Go.Wl Go.Proofs
set_option maxRecDepth 100000
set_option linter.unusedVariables false
set_option linter.unusedSimpArgs false
theorem vm_pushK (b : VB) (ph : PH) (hh : List TH) {m : VM} {m' : VM} {th : Nat} {l : List V} (bl : Nat) (hP : pushM th l m = some m') (seg : Seg) (hM : isVM b ph hh m seg) : Spec Tryz.prog 142 [tp b th, .slice (some ⟨bl, 0, none⟩) l.length l.length] [seg, blk bl 42 (l.flatMap valV)] (Ret fun v H => v = .tuple #[] ∧ ∃ hh' seg' old, KF hh hh' ∧ isVM b ph hh' m' seg' ∧ (∀ args aa sx, ArgW hh th m args aa sx → ArgW hh' th m' args aa (sx ++ old)) ∧ H = [seg', old]) := by
  unfold pushM getT at hP
  obtain ⟨t, ht, hP⟩ := bnd1 hP
  obtain ⟨g, hg⟩ : ∃ g, hh[th]? = some g := by obtain ⟨g, _, _, hg, _⟩ := hM.thr ht; exact ⟨g, hg⟩
  have hlen : t.stack.length + l.length ≤ 1000000 := Decidable.byContradiction fun q => by rw [if_neg q] at hP; cases hP
  rw [if_pos hlen] at hP
  injection hP with hP
  subst hP
  obtain ⟨na, nc, r, ss, sf, sn, s0, s2, c0, c2, rfl, hpre, hss, hsf, hsn, hput⟩ := hM.opnT ht hg
  refine Spec_openAt [r, blk b.thb 263 (c0 ++ [I t.st, I t.fn, .slice g.sa t.stack.length g.sc, .slice g.fa t.frames.length g.fc, .slice na t.opn.length nc] ++ c2), s0, ss, sf, sn, s2] (by first | exact P0 | exact P1 | exact P2 | exact P3 | exact P4 | exact P5 | exact P6 | exact P7 | exact P8 | exact P9 | exact P10 | exact P11 | exact P12 | exact P13 | exact P14 | exact P15 | exact P16 | exact P17 | exact P18 | exact P19 | exact P20 | exact P21 | exact P22 | exact P23) ?_
  simp only [List.cons_append, List.nil_append]
  refine Spec_enter Tryz.func142 rfl Tryz.ntmps142 rfl ?_
  show SP _ _ _ _ _ [(0, _), (1, _)] _
  refine SP_region ?_
  refine SPL_y (y_move rfl) rfl ?_
  refine SPL_y (y_move rfl) rfl ?_
  refine SPL_y (y_nil rfl) rfl ?_
  refine SPL_y (y_fa fld_263_2 rfl) rfl ?_
  refine SPL_y (y_load Tryz.isAgg90 rfl (by repeat (first | exact Cell.amid hpre rfl | exact Cell.head rfl | apply Cell.tail))) rfl ?_
  refine SPL_y (y_move rfl) rfl ?_
  refine SPL_one rfl (SP1_appendK el_90 (.inl Tryz.underlying90) rfl rfl hss (by first | exact P0 | exact P1 | exact P2 | exact P3 | exact P4 | exact P5 | exact P6 | exact P7 | exact P8 | exact P9 | exact P10 | exact P11 | exact P12 | exact P13 | exact P14 | exact P15 | exact P16 | exact P17 | exact P18 | exact P19 | exact P20 | exact P21 | exact P22 | exact P23) (Src.of (by repeat (first | exact Cells.all _ | exact Cells.amid hpre rfl (by decide) | exact Cells.head rfl | apply Cells.tail)) (flat_len valV_len _)) (valV_one _) (by omega) rfl ?_)
  intro sa1 sc1 ss1 old hA1 hkp
  refine SPL_y (y_nil rfl) rfl ?_
  refine SPL_y (y_fa fld_263_2 rfl) rfl ?_
  refine SPL_one rfl (SP1_storeM (j := 2) Tryz.sizeOf90 rfl rfl rfl hpre (by first | exact U0 | exact U1 | exact U2 | exact U3 | exact U4 | exact U5 | exact U6 | exact U7 | exact U8 | exact U9 | exact U10 | exact U11 | exact U12 | exact U13 | exact U14 | exact U15 | exact U16 | exact U17 | exact U18 | exact U19 | exact U20 | exact U21 | exact U22 | exact U23) (by rfl) ?_)
  simp only [List.set_cons_zero, List.set_cons_succ, List.take_succ_cons, List.take_zero, List.drop_succ_cons, List.drop_zero, List.cons_append, List.nil_append]
  rw [show t.stack.length + l.length = (t.stack ++ l).length from List.length_append.symm, ← List.flatMap_append] at hA1
  rw [show t.stack.length + l.length = (t.stack ++ l).length from List.length_append.symm]
  refine SPL_nil ?_
  refine bodyP_end (H' := [List.flatten [r, blk b.thb 263 (c0 ++ [I t.st, I t.fn, .slice sa1 (t.stack ++ l).length sc1, .slice g.fa t.frames.length g.fc, .slice na t.opn.length nc] ++ c2), s0, ss1, sf, sn, s2], old]) (Res0 rfl) (by repeat (first | exact Part.nil _ | (apply Part.cons; with_reducible (first | exact P0 | exact P1 | exact P2 | exact P3 | exact P4 | exact P5 | exact P6 | exact P7 | exact P8 | exact P9 | exact P10 | exact P11 | exact P12 | exact P13 | exact P14 | exact P15 | exact P16 | exact P17 | exact P18 | exact P19 | exact P20 | exact P21 | exact P22 | exact P23)) | (apply Part.flat; simp only [List.cons_append, List.nil_append]) | (apply Part.cons; (first | exact P0 | exact P1 | exact P2 | exact P3 | exact P4 | exact P5 | exact P6 | exact P7 | exact P8 | exact P9 | exact P10 | exact P11 | exact P12 | exact P13 | exact P14 | exact P15 | exact P16 | exact P17 | exact P18 | exact P19 | exact P20 | exact P21 | exact P22 | exact P23)) | (apply Part.nilc))) ?_
  exact ⟨rfl, hh.set th { g with sa := sa1, sc := sc1 }, _, old, KF.set hg rfl rfl, hput { t with stack := t.stack ++ l } { g with sa := sa1, sc := sc1 } na nc ss1 sf sn hA1 hsf hsn, fun args aa sx h => h.push ht hg hss hkp, rfl⟩

theorem slots_take {args args' : List V} {np ns i : Nat} (hi : i < ns) (hg : ∀ j, args'.getD j V.nil = args.getD j V.nil) : (slotsL args np ns).take (i + 1) = (slotsL args np ns).take i ++ [if i < np then args'.getD i V.nil else V.nil] := by
  have hl : i < (slotsL args np ns).length := by simp [slotsL]; exact hi
  rw [List.take_succ_eq_append_getElem hl]
  congr 2
  simp only [slotsL, List.getElem_map, List.getElem_range, hg]
theorem pad_getD (args : List V) (k j : Nat) : (args ++ List.replicate k V.nil).getD j V.nil = args.getD j V.nil := by
  simp only [List.getD_eq_getElem?_getD]
  by_cases h : j < args.length
  · rw [List.getElem?_append_left h]
  · rw [List.getElem?_append_right (by omega), List.getElem?_eq_none (l := args) (by omega), List.getElem?_replicate]
    split <;> rfl
set_option maxHeartbeats 4000000 in
theorem vm_enter (b : VB) (ph : PH) (hh : List TH) {m : VM} {m' : VM} {th : Nat} {c : Int} {args : List V} {aa : Option Addr} {sx : Seg} {ret : Int} {prot : Bool} (hal : args.length ≤ 1000) (hW : ArgW hh th m args aa sx) (hP : enterM th c args ret prot m = some m') (seg : Seg) (hM : isVM b ph hh m seg) : Spec Tryz.prog 141 [pt b.vb, tp b th, I c, .slice aa args.length args.length, I ret, .bool prot] [seg, sx] (Ret fun v H => v = .tuple #[] ∧ ∃ hh' seg', isVM b ph hh' m' seg' ∧ H = [seg']) := by
  unfold enterM getT at hP
  obtain ⟨cl, hcl, hP⟩ := bnd1 hP
  obtain ⟨p, hp, hP⟩ := bnd1 hP
  obtain ⟨t, ht, hP⟩ := bnd1 hP
  have hr : (0 ≤ p.nparams ∧ p.nparams ≤ 1000) ∧ (0 ≤ p.nslots ∧ p.nslots ≤ 1000) ∧ t.stack.length + 2000 ≤ 1000000 ∧ t.frames.length < 1000000 := Decidable.byContradiction fun q => by rw [if_neg q] at hP; cases hP
  rw [if_pos hr] at hP
  injection hP with hP
  subst hP
  obtain ⟨hcb, hcl0, _, _, _⟩ := getI_some hcl
  obtain ⟨hpb, hpl0, _, _, _⟩ := getI_some hp
  obtain ⟨lq, lc1, hcl1, hcl2⟩ := hM.clo hcl
  obtain ⟨pq, hpa, hpq⟩ := hM.proto hp
  have hpr0 : ∀ H : Hp, Cell (seg :: H) b.vb (0 + 2) (.slice (some ⟨pq, 0, none⟩) m.pg.protos.length ph.pc) := fun H => by have := hM.protos (H := H); rw [hpa] at this; exact this
  refine Spec_enter Tryz.func141 rfl Tryz.ntmps141 rfl ?_
  show SP _ _ _ _ _ [(0, _), (1, _), (2, _), (3, _), (4, _), (5, _)] _
  refine SP_seq ?_
  refine SP_draw 999 [(0, 0), (1, 0), (2, 0), (4, 0), (5, 0), (6, 0), (8, 0), (3, 1), (7, 1), (9, 0), (10, 0), (11, 1), (12, 0), (13, 0)] mixed (by kernel_rfl) (fun _ _ _ _ _ h => h) (Part.refl _) ?_
  refine SPO_p rfl (y_move rfl) rfl ?_
  refine SPO_p rfl (y_nil rfl) rfl ?_
  refine SPO_p rfl (y_fa fld_115_2 rfl) rfl ?_
  refine SPO_p rfl (y_move rfl) rfl ?_
  refine SPO_p rfl (y_nil rfl) rfl ?_
  refine SPO_p rfl (y_fa fld_115_6 rfl) rfl ?_
  refine SPO_p rfl (y_move rfl) rfl ?_
  refine SPO_h rfl (y_load Tryz.isAgg108 rfl (by repeat (first | exact (hpr0 _) | apply Cell.tail))) rfl ?_
  refine SPO_h rfl (y_load Tryz.isAgg111 rfl (by repeat (first | exact (hcl1 _) | apply Cell.tail))) rfl ?_
  refine SPO_p rfl (y_ia Tryz.underlying111 Tryz.sizeOf181 rfl rfl (by omega)) rfl ?_
  refine SPO_p rfl (y_fa fld_181_0 rfl) rfl ?_
  refine SPO_h rfl (y_load Tryz.isAgg3 rfl (by repeat (first | exact ((hcl2 _).cell rfl) | apply Cell.tail))) rfl ?_
  refine SPO_p rfl (y_ia Tryz.underlying108 Tryz.sizeOf252 rfl rfl (by omega)) rfl ?_
  refine SPO_p rfl (y_assign rfl) rfl ?_
  refine SPO_nil ?_
  refine thenP_n ?_
  refine SP_seq ?_
  refine SP_block ?_
  refine SP_loop (G := List V × Option Addr × Nat × Seg × Nat) (fun g => 2000 - g.1.length) (fun g => [(0, pt b.vb), (1, tp b th), (2, I c), (3, .slice g.2.1 g.1.length g.2.2.1), (4, I ret), (5, .bool prot), (12, .pointer (some ⟨pq, 0 + cl.p.toNat * 8, none⟩))]) (fun g => [seg, g.2.2.2.1]) (fun g => g.1 = args ++ List.replicate g.2.2.2.2 V.nil ∧ g.1.length ≤ 1000 ∧ ((g.2.2.1 = g.1.length ∧ ArgW hh th m g.1 g.2.1 g.2.2.2.1) ∨ Arr 42 3 g.2.1 g.1.length g.2.2.1 (g.1.flatMap valV) g.2.2.2.1)) ((args, aa, args.length, sx, 0)) (⟨by simp, hal, .inl ⟨rfl, hW⟩⟩) (by repeat (first | exact Sub.nil _ | refine Sub.cons rfl ?_)) (by repeat (first | exact Part.nil _ | (apply Part.cons; with_reducible (first | exact P0 | exact P1 | exact P2 | exact P3 | exact P4 | exact P5 | exact P6 | exact P7 | exact P8 | exact P9 | exact P10 | exact P11 | exact P12 | exact P13 | exact P14 | exact P15 | exact P16 | exact P17 | exact P18 | exact P19 | exact P20 | exact P21 | exact P22 | exact P23)) | (apply Part.flat; simp only [List.cons_append, List.nil_append]) | (apply Part.cons; (first | exact P0 | exact P1 | exact P2 | exact P3 | exact P4 | exact P5 | exact P6 | exact P7 | exact P8 | exact P9 | exact P10 | exact P11 | exact P12 | exact P13 | exact P14 | exact P15 | exact P16 | exact P17 | exact P18 | exact P19 | exact P20 | exact P21 | exact P22 | exact P23)) | (apply Part.nilc))) ?_
  rintro ⟨args', aa, cap, sx, k⟩ ⟨hpad, hal, hcase⟩
  dsimp only at hpad hal hcase ⊢
  rcases hcase with ⟨rfl, hW⟩ | hOw
  · refine SP_seq ?_
    refine SP_seq ?_
    refine SP_region ?_
    refine SPL_y (y_move rfl) rfl ?_
    refine SPL_y (y_len_l Tryz.underlying90 rfl) rfl ?_
    refine SPL_y (y_move rfl) rfl ?_
    refine SPL_y (y_nil rfl) rfl ?_
    refine SPL_y (y_fa fld_252_0 rfl) rfl ?_
    refine SPL_y (y_load Tryz.isAgg3 rfl (by repeat (first | exact ((hpq _).cell rfl) | apply Cell.tail))) rfl ?_
    refine SPL_if (y_lss rfl rfl) rfl ?_ ?_
    · intro h1_6
      refine SPL_nil ?_
      refine thenP_n ?_
      refine SP_cond_t rfl ?_
      refine SP_skip ?_
      refine thenP_n ?_
      refine SP_block ?_
      have hlt : args'.length < p.nparams.toNat := by omega
      refine SP_region ?_
      refine SPL_y (y_move rfl) rfl ?_
      refine SPL_y (y_build B42 rfl rfl (by simp only [fillL, List.foldl_cons, List.foldl_nil, List.set_cons_zero, List.set_cons_succ]; exact rfl)) rfl ?_
      refine SPL_one rfl (SP1_slice1 el_90 rfl rfl rfl rfl rfl ?_)
      intro b37
      refine SPL_one rfl (SP1_appendW (m := args'.length) (xs := args'.flatMap valV) el_90 (.inl Tryz.underlying90) rfl rfl (hW.src hM (fun q o ws h => by repeat (first | exact h _ | apply Cells.tail))) (Src.of (by repeat (first | exact Cells.all _ | exact Cells.amid hpre rfl (by decide) | exact Cells.head rfl | apply Cells.tail)) (by rfl)) (by decide) (by omega) rfl ?_)
      intro a2 c2 s2 h2
      rw [show args'.length + 1 = (args' ++ [V.nil]).length from by simp] at h2 ⊢
      rw [show args'.flatMap valV ++ _ = (args' ++ [V.nil]).flatMap valV from by rw [List.flatMap_append]; rfl] at h2
      refine SPL_y (y_assign rfl) rfl ?_
      refine SPL_nil ?_
      refine inBlockP_n ?_
      refine thenP_n ?_
      exact Again.intro ((args' ++ [V.nil], a2, c2, s2, k + 1)) (⟨by dsimp only; rw [hpad, List.replicate_succ', List.append_assoc], by dsimp only; simp; omega, .inr h2⟩) (by dsimp only; simp; omega) (by repeat (first | exact Sub.nil _ | refine Sub.cons rfl ?_)) (by repeat (first | exact Part.nil _ | (apply Part.cons; with_reducible (first | exact P0 | exact P1 | exact P2 | exact P3 | exact P4 | exact P5 | exact P6 | exact P7 | exact P8 | exact P9 | exact P10 | exact P11 | exact P12 | exact P13 | exact P14 | exact P15 | exact P16 | exact P17 | exact P18 | exact P19 | exact P20 | exact P21 | exact P22 | exact P23)) | (apply Part.flat; simp only [List.cons_append, List.nil_append]) | (apply Part.cons; (first | exact P0 | exact P1 | exact P2 | exact P3 | exact P4 | exact P5 | exact P6 | exact P7 | exact P8 | exact P9 | exact P10 | exact P11 | exact P12 | exact P13 | exact P14 | exact P15 | exact P16 | exact P17 | exact P18 | exact P19 | exact P20 | exact P21 | exact P22 | exact P23)) | (apply Part.nilc)))
    intro h1_6
    refine SPL_nil ?_
    refine thenP_n ?_
    refine SP_cond_f rfl ?_
    refine SP_exit ?_
    refine thenP_exit ?_
    refine thenP_exit ?_
    refine inBlockP_hit ?_
    refine thenP_n ?_
    refine SP_seq ?_
    have hgd : ∀ j, args'.getD j V.nil = args.getD j V.nil := fun j => by rw [hpad]; exact pad_getD _ _ _
    obtain ⟨g0, oa0, oc0, hg0, _, hrow0, _⟩ := hM.thr ht
    have hstk0 : ∀ H : Hp, Cell (seg :: H) b.thb (0 + th * 5 + 2) (.slice g0.sa t.stack.length g0.sc) := fun H => hrow0 H 2 _ rfl
    refine SP_region ?_
    refine SPL_y (y_move rfl) rfl ?_
    refine SPL_y (y_nil rfl) rfl ?_
    refine SPL_y (y_fa fld_263_2 rfl) rfl ?_
    refine SPL_y (y_load Tryz.isAgg90 rfl (by repeat (first | exact (hstk0 _) | apply Cell.tail))) rfl ?_
    refine SPL_y (y_len_l Tryz.underlying90 rfl) rfl ?_
    refine SPL_y (y_assign rfl) rfl ?_
    refine SPL_nil ?_
    refine thenP_n ?_
    refine SP_seq ?_
    refine SP_seq ?_
    refine SP_region ?_
    refine SPL_y (y_assign rfl) rfl ?_
    refine SPL_nil ?_
    refine thenP_n ?_
    refine SP_block ?_
    refine SP_loop (G := Nat × List TH × Seg × Seg) (fun g => p.nslots.toNat - g.1) (fun g => [(0, pt b.vb), (1, tp b th), (2, I c), (3, .slice aa args'.length args'.length), (4, I ret), (5, .bool prot), (12, .pointer (some ⟨pq, 0 + cl.p.toNat * 8, none⟩)), (13, I t.stack.length), (14, I g.1)]) (fun g => [g.2.2.1, g.2.2.2]) (fun g => isVM b ph g.2.1 (setTh m th { t with stack := t.stack ++ (slotsL args p.nparams.toNat p.nslots.toNat).take g.1 }) g.2.2.1 ∧ KF hh g.2.1 ∧ ArgW g.2.1 th (setTh m th { t with stack := t.stack ++ (slotsL args p.nparams.toNat p.nslots.toNat).take g.1 }) args' aa g.2.2.2 ∧ g.1 ≤ p.nslots.toNat) ((0, hh, seg, sx)) (⟨by dsimp only; rw [List.take_zero, List.append_nil]; rw [setTh_self ht]; exact hM, KF.refl _, by dsimp only; rw [List.take_zero, List.append_nil]; rw [setTh_self ht]; exact hW, Nat.zero_le _⟩) (by repeat (first | exact Sub.nil _ | refine Sub.cons rfl ?_)) (by repeat (first | exact Part.nil _ | (apply Part.cons; with_reducible (first | exact P0 | exact P1 | exact P2 | exact P3 | exact P4 | exact P5 | exact P6 | exact P7 | exact P8 | exact P9 | exact P10 | exact P11 | exact P12 | exact P13 | exact P14 | exact P15 | exact P16 | exact P17 | exact P18 | exact P19 | exact P20 | exact P21 | exact P22 | exact P23)) | (apply Part.flat; simp only [List.cons_append, List.nil_append]) | (apply Part.cons; (first | exact P0 | exact P1 | exact P2 | exact P3 | exact P4 | exact P5 | exact P6 | exact P7 | exact P8 | exact P9 | exact P10 | exact P11 | exact P12 | exact P13 | exact P14 | exact P15 | exact P16 | exact P17 | exact P18 | exact P19 | exact P20 | exact P21 | exact P22 | exact P23)) | (apply Part.nilc))) ?_
    rintro ⟨i, hhi, sgi, sxi⟩ ⟨hM, hki, hWi, hin0⟩
    dsimp only at hM hki hWi hin0 ⊢
    obtain ⟨pq', hpa', hpi⟩ := hM.proto (i := cl.p) (p := p) hp
    rw [hpa] at hpa'
    injection hpa' with hpa'
    injection hpa' with hpa'
    subst hpa'
    refine SP_seq ?_
    refine SP_seq ?_
    refine SP_region ?_
    refine SPL_y (y_move rfl) rfl ?_
    refine SPL_y (y_move rfl) rfl ?_
    refine SPL_y (y_nil rfl) rfl ?_
    refine SPL_y (y_fa fld_252_1 rfl) rfl ?_
    refine SPL_y (y_load Tryz.isAgg3 rfl (by repeat (first | exact ((hpi _).cell rfl) | apply Cell.tail))) rfl ?_
    refine SPL_ifn (y_lss rfl rfl) rfl ?_ ?_
    · intro h5_5
      refine SPL_nil ?_
      refine thenP_n ?_
      refine SP_cond_f rfl ?_
      refine SP_exit ?_
      refine thenP_exit ?_
      refine thenP_exit ?_
      refine inBlockP_hit ?_
      refine thenP_n ?_
      obtain rfl : i = p.nslots.toNat := by omega
      have hfull : (slotsL args p.nparams.toNat p.nslots.toNat).take p.nslots.toNat = slotsL args p.nparams.toNat p.nslots.toNat := List.take_of_length_le (by simp [slotsL])
      rw [hfull] at hM
      obtain ⟨tt, htt⟩ : ∃ tt, tt = { t with stack := t.stack ++ slotsL args p.nparams.toNat p.nslots.toNat } := ⟨_, rfl⟩
      rw [← htt] at hM
      have ht2 : (setTh m th tt).vs.threads[th]? = some tt := setTh_get ht
      obtain ⟨g, hg⟩ : ∃ g, hhi[th]? = some g := by obtain ⟨g, _, _, hg, _⟩ := hM.thr ht2; exact ⟨g, hg⟩
      obtain ⟨na, nc, r, ss, sf, sn, s0, s2, c0, c2, rfl, hpre, hss, hsf, hsn, hput⟩ := hM.opnT ht2 hg
      have hfl : tt.frames.length < 1000000 := by rw [htt]; exact hr.2.2.2
      refine SP_openAt [r, blk b.thb 263 (c0 ++ [I tt.st, I tt.fn, .slice g.sa tt.stack.length g.sc, .slice g.fa tt.frames.length g.fc, .slice na tt.opn.length nc] ++ c2), s0, ss, sf, sn, s2] (by first | exact P0 | exact P1 | exact P2 | exact P3 | exact P4 | exact P5 | exact P6 | exact P7 | exact P8 | exact P9 | exact P10 | exact P11 | exact P12 | exact P13 | exact P14 | exact P15 | exact P16 | exact P17 | exact P18 | exact P19 | exact P20 | exact P21 | exact P22 | exact P23) ?_
      simp only [List.cons_append, List.nil_append]
      refine SP_region ?_
      refine SPL_y (y_move rfl) rfl ?_
      refine SPL_y (y_move rfl) rfl ?_
      refine SPL_y (y_nil rfl) rfl ?_
      refine SPL_y (y_fa fld_263_3 rfl) rfl ?_
      refine SPL_y (y_load Tryz.isAgg261 rfl (by repeat (first | exact Cell.amid hpre rfl | exact Cell.head rfl | apply Cell.tail))) rfl ?_
      refine SPL_y (y_move rfl) rfl ?_
      refine SPL_y (y_move rfl) rfl ?_
      refine SPL_y (y_move rfl) rfl ?_
      refine SPL_y (y_move rfl) rfl ?_
      refine SPL_y (y_build B331 rfl rfl (by simp only [fillL, List.foldl_cons, List.foldl_nil, List.set_cons_zero, List.set_cons_succ]; exact rfl)) rfl ?_
      refine SPL_one rfl (SP1_slice1 el_261 rfl rfl rfl rfl rfl ?_)
      intro b79
      refine SPL_one rfl (SP1_append el_261 (.inl Tryz.underlying261) rfl rfl hsf (by first | exact P0 | exact P1 | exact P2 | exact P3 | exact P4 | exact P5 | exact P6 | exact P7 | exact P8 | exact P9 | exact P10 | exact P11 | exact P12 | exact P13 | exact P14 | exact P15 | exact P16 | exact P17 | exact P18 | exact P19 | exact P20 | exact P21 | exact P22 | exact P23) (Src.of (by repeat (first | exact Cells.all _ | exact Cells.amid hpre rfl (by decide) | exact Cells.head rfl | apply Cells.tail)) (by rfl)) (by rfl) (by omega) rfl ?_)
      intro fa1 fc1 sf1 hA1
      refine SPL_y (y_nil rfl) rfl ?_
      refine SPL_y (y_fa fld_263_3 rfl) rfl ?_
      refine SPL_one rfl (SP1_storeM (j := 3) Tryz.sizeOf261 rfl rfl rfl hpre (by first | exact U0 | exact U1 | exact U2 | exact U3 | exact U4 | exact U5 | exact U6 | exact U7 | exact U8 | exact U9 | exact U10 | exact U11 | exact U12 | exact U13 | exact U14 | exact U15 | exact U16 | exact U17 | exact U18 | exact U19 | exact U20 | exact U21 | exact U22 | exact U23) (by rfl) ?_)
      simp only [List.set_cons_zero, List.set_cons_succ, List.take_succ_cons, List.take_zero, List.drop_succ_cons, List.drop_zero, List.cons_append, List.nil_append]
      rw [show tt.frames.length + 1 = (tt.frames ++ [(⟨c, 0, t.stack.length, ret, prot⟩ : Fr)]).length from by simp] at hA1 ⊢
      rw [show tt.frames.flatMap frV ++ _ = (tt.frames ++ [(⟨c, 0, t.stack.length, ret, prot⟩ : Fr)]).flatMap frV from by rw [List.flatMap_append]; rfl] at hA1
      refine SPL_nil ?_
      refine bodyP_end (H' := [List.flatten [r, blk b.thb 263 (c0 ++ [I tt.st, I tt.fn, .slice g.sa tt.stack.length g.sc, .slice fa1 (tt.frames ++ [(⟨c, 0, t.stack.length, ret, prot⟩ : Fr)]).length fc1, .slice na tt.opn.length nc] ++ c2), s0, ss, sf1, sn, s2]]) (Res0 rfl) (by repeat (first | exact Part.nil _ | (apply Part.cons; with_reducible (first | exact P0 | exact P1 | exact P2 | exact P3 | exact P4 | exact P5 | exact P6 | exact P7 | exact P8 | exact P9 | exact P10 | exact P11 | exact P12 | exact P13 | exact P14 | exact P15 | exact P16 | exact P17 | exact P18 | exact P19 | exact P20 | exact P21 | exact P22 | exact P23)) | (apply Part.flat; simp only [List.cons_append, List.nil_append]) | (apply Part.cons; (first | exact P0 | exact P1 | exact P2 | exact P3 | exact P4 | exact P5 | exact P6 | exact P7 | exact P8 | exact P9 | exact P10 | exact P11 | exact P12 | exact P13 | exact P14 | exact P15 | exact P16 | exact P17 | exact P18 | exact P19 | exact P20 | exact P21 | exact P22 | exact P23)) | (apply Part.nilc))) ?_
      refine ⟨rfl, hhi.set th { g with fa := fa1, fc := fc1 }, _, ?_, rfl⟩
      have hM3 := hput { tt with frames := (tt.frames ++ [(⟨c, 0, t.stack.length, ret, prot⟩ : Fr)]) } { g with fa := fa1, fc := fc1 } na nc ss sf1 sn hss hA1 hsn
      rw [setTh_setTh] at hM3
      rw [htt] at hM3 ⊢
      exact hM3
    intro h5_5
    refine SPL_nil ?_
    refine thenP_n ?_
    refine SP_cond_t rfl ?_
    refine SP_skip ?_
    refine thenP_n ?_
    refine SP_seq ?_
    refine SP_block ?_
    refine SP_seq ?_
    have hin : i < p.nslots.toNat := by omega
    have hpu : pushM th [if i < p.nparams.toNat then args'.getD i V.nil else V.nil] (setTh m th { t with stack := t.stack ++ (slotsL args p.nparams.toNat p.nslots.toNat).take i }) = some (setTh m th { t with stack := t.stack ++ (slotsL args p.nparams.toNat p.nslots.toNat).take (i + 1) }) := by
      unfold pushM getT
      rw [setTh_get ht]
      dsimp only [bind1]
      have hll : ((slotsL args p.nparams.toNat p.nslots.toNat).take i).length ≤ 1000 := by simp [slotsL]; omega
      rw [if_pos (show (t.stack ++ (slotsL args p.nparams.toNat p.nslots.toNat).take i).length + [if i < p.nparams.toNat then args'.getD i V.nil else V.nil].length ≤ 1000000 from by rw [List.length_append]; simp only [List.length_cons, List.length_nil]; omega), setTh_setTh, slots_take hin hgd, List.append_assoc]
    refine SP_region ?_
    refine SPL_y (y_move rfl) rfl ?_
    refine SPL_y (y_move rfl) rfl ?_
    refine SPL_y (y_nil rfl) rfl ?_
    refine SPL_y (y_fa fld_252_0 rfl) rfl ?_
    refine SPL_y (y_load Tryz.isAgg3 rfl (by repeat (first | exact ((hpi _).cell rfl) | apply Cell.tail))) rfl ?_
    refine SPL_ifn (y_lss rfl rfl) rfl ?_ ?_
    · intro h7_5
      refine SPL_nil ?_
      refine thenP_n ?_
      refine SP_cond_f rfl ?_
      rw [if_neg (by omega)] at hpu
      refine SP_region ?_
      refine SPL_y (y_move rfl) rfl ?_
      refine SPL_y (y_build B42 rfl rfl (by simp only [fillL, List.foldl_cons, List.foldl_nil, List.set_cons_zero, List.set_cons_succ]; exact rfl)) rfl ?_
      refine SPL_one rfl (SP1_slice1 el_90 rfl rfl rfl rfl rfl ?_)
      intro b67
      refine SPL_one rfl (SP1_call (vm_pushK b ph _ _ hpu _ hM) Tryz.call142 rfl rfl (by repeat (first | exact Part.nil _ | (apply Part.cons; with_reducible (first | exact P0 | exact P1 | exact P2 | exact P3 | exact P4 | exact P5 | exact P6 | exact P7 | exact P8 | exact P9 | exact P10 | exact P11 | exact P12 | exact P13 | exact P14 | exact P15 | exact P16 | exact P17 | exact P18 | exact P19 | exact P20 | exact P21 | exact P22 | exact P23)) | (apply Part.flat; simp only [List.cons_append, List.nil_append]) | (apply Part.cons; (first | exact P0 | exact P1 | exact P2 | exact P3 | exact P4 | exact P5 | exact P6 | exact P7 | exact P8 | exact P9 | exact P10 | exact P11 | exact P12 | exact P13 | exact P14 | exact P15 | exact P16 | exact P17 | exact P18 | exact P19 | exact P20 | exact P21 | exact P22 | exact P23)) | (apply Part.nilc))) ?_)
      rintro v post H' ⟨rfl, hh1, sg1, old1, hk1, hM, haw, rfl⟩ hH
      try simp only [List.cons_append, List.nil_append] at hH
      subst hH
      refine SPL_nil ?_
      refine inBlockP_n ?_
      refine thenP_n ?_
      refine SP_region ?_
      refine SPL_y (y_move rfl) rfl ?_
      refine SPL_y (y_add rfl rfl (by omega)) rfl ?_
      refine SPL_y (y_assign rfl) rfl ?_
      refine SPL_nil ?_
      refine thenP_n ?_
      exact Again.intro ((i + 1, hh1, sg1, List.flatten [sxi, old1])) (⟨hM, hki.trans hk1, by have := haw _ _ _ hWi; simpa using this, by dsimp only; omega⟩) (by dsimp only; omega) (by repeat (first | exact Sub.nil _ | refine Sub.cons rfl ?_)) (by repeat (first | exact Part.nil _ | (apply Part.cons; with_reducible (first | exact P0 | exact P1 | exact P2 | exact P3 | exact P4 | exact P5 | exact P6 | exact P7 | exact P8 | exact P9 | exact P10 | exact P11 | exact P12 | exact P13 | exact P14 | exact P15 | exact P16 | exact P17 | exact P18 | exact P19 | exact P20 | exact P21 | exact P22 | exact P23)) | (apply Part.flat; simp only [List.cons_append, List.nil_append]) | (apply Part.cons; (first | exact P0 | exact P1 | exact P2 | exact P3 | exact P4 | exact P5 | exact P6 | exact P7 | exact P8 | exact P9 | exact P10 | exact P11 | exact P12 | exact P13 | exact P14 | exact P15 | exact P16 | exact P17 | exact P18 | exact P19 | exact P20 | exact P21 | exact P22 | exact P23)) | (apply Part.nilc)))
    intro h7_5
    refine SPL_nil ?_
    refine thenP_n ?_
    refine SP_cond_t rfl ?_
    rw [if_pos (by omega)] at hpu
    have hai : i < args'.length := by omega
    obtain ⟨vi, hvi⟩ : ∃ v, args'[i]? = some v := ⟨_, List.getElem?_eq_getElem hai⟩
    rw [show args'.getD i V.nil = vi from by rw [List.getD_eq_getElem?_getD, hvi]; rfl] at hpu
    obtain ⟨wq, wo, rfl, hcw⟩ := (hWi.cells hM).resolve_left (fun h => by rw [h] at hai; simp at hai)
    refine SP_region ?_
    refine SPL_y (y_move rfl) rfl ?_
    refine SPL_y (y_move rfl) rfl ?_
    refine SPL_y (y_move rfl) rfl ?_
    refine SPL_y (y_ia Tryz.underlying90 Tryz.sizeOf42 rfl rfl (by omega)) rfl ?_
    refine SPL_y (y_loads Tryz.isAgg42 Tryz.sizeOf42 rfl rfl (by repeat (first | exact (argw_at (hcw _) hvi) | apply Cells.tail))) rfl ?_
    refine SPL_one rfl (SP1_slice1 el_90 rfl rfl rfl rfl rfl ?_)
    intro b63
    refine SPL_one rfl (SP1_call (vm_pushK b ph _ _ hpu _ hM) Tryz.call142 rfl rfl (by repeat (first | exact Part.nil _ | (apply Part.cons; with_reducible (first | exact P0 | exact P1 | exact P2 | exact P3 | exact P4 | exact P5 | exact P6 | exact P7 | exact P8 | exact P9 | exact P10 | exact P11 | exact P12 | exact P13 | exact P14 | exact P15 | exact P16 | exact P17 | exact P18 | exact P19 | exact P20 | exact P21 | exact P22 | exact P23)) | (apply Part.flat; simp only [List.cons_append, List.nil_append]) | (apply Part.cons; (first | exact P0 | exact P1 | exact P2 | exact P3 | exact P4 | exact P5 | exact P6 | exact P7 | exact P8 | exact P9 | exact P10 | exact P11 | exact P12 | exact P13 | exact P14 | exact P15 | exact P16 | exact P17 | exact P18 | exact P19 | exact P20 | exact P21 | exact P22 | exact P23)) | (apply Part.nilc))) ?_)
    rintro v post H' ⟨rfl, hh1, sg1, old1, hk1, hM, haw, rfl⟩ hH
    try simp only [List.cons_append, List.nil_append] at hH
    subst hH
    refine SPL_nil ?_
    refine inBlockP_n ?_
    refine thenP_n ?_
    refine SP_region ?_
    refine SPL_y (y_move rfl) rfl ?_
    refine SPL_y (y_add rfl rfl (by omega)) rfl ?_
    refine SPL_y (y_assign rfl) rfl ?_
    refine SPL_nil ?_
    refine thenP_n ?_
    exact Again.intro ((i + 1, hh1, sg1, List.flatten [sxi, old1])) (⟨hM, hki.trans hk1, by have := haw _ _ _ hWi; simpa using this, by dsimp only; omega⟩) (by dsimp only; omega) (by repeat (first | exact Sub.nil _ | refine Sub.cons rfl ?_)) (by repeat (first | exact Part.nil _ | (apply Part.cons; with_reducible (first | exact P0 | exact P1 | exact P2 | exact P3 | exact P4 | exact P5 | exact P6 | exact P7 | exact P8 | exact P9 | exact P10 | exact P11 | exact P12 | exact P13 | exact P14 | exact P15 | exact P16 | exact P17 | exact P18 | exact P19 | exact P20 | exact P21 | exact P22 | exact P23)) | (apply Part.flat; simp only [List.cons_append, List.nil_append]) | (apply Part.cons; (first | exact P0 | exact P1 | exact P2 | exact P3 | exact P4 | exact P5 | exact P6 | exact P7 | exact P8 | exact P9 | exact P10 | exact P11 | exact P12 | exact P13 | exact P14 | exact P15 | exact P16 | exact P17 | exact P18 | exact P19 | exact P20 | exact P21 | exact P22 | exact P23)) | (apply Part.nilc)))
  · refine SP_seq ?_
    refine SP_seq ?_
    refine SP_region ?_
    refine SPL_y (y_move rfl) rfl ?_
    refine SPL_y (y_len_l Tryz.underlying90 rfl) rfl ?_
    refine SPL_y (y_move rfl) rfl ?_
    refine SPL_y (y_nil rfl) rfl ?_
    refine SPL_y (y_fa fld_252_0 rfl) rfl ?_
    refine SPL_y (y_load Tryz.isAgg3 rfl (by repeat (first | exact ((hpq _).cell rfl) | apply Cell.tail))) rfl ?_
    refine SPL_if (y_lss rfl rfl) rfl ?_ ?_
    · intro h1_6
      refine SPL_nil ?_
      refine thenP_n ?_
      refine SP_cond_t rfl ?_
      refine SP_skip ?_
      refine thenP_n ?_
      refine SP_block ?_
      have hlt : args'.length < p.nparams.toNat := by omega
      refine SP_region ?_
      refine SPL_y (y_move rfl) rfl ?_
      refine SPL_y (y_build B42 rfl rfl (by simp only [fillL, List.foldl_cons, List.foldl_nil, List.set_cons_zero, List.set_cons_succ]; exact rfl)) rfl ?_
      refine SPL_one rfl (SP1_slice1 el_90 rfl rfl rfl rfl rfl ?_)
      intro b37
      refine SPL_one rfl (SP1_append el_90 (.inl Tryz.underlying90) rfl rfl hOw (by first | exact P0 | exact P1 | exact P2 | exact P3 | exact P4 | exact P5 | exact P6 | exact P7 | exact P8 | exact P9 | exact P10 | exact P11 | exact P12 | exact P13 | exact P14 | exact P15 | exact P16 | exact P17 | exact P18 | exact P19 | exact P20 | exact P21 | exact P22 | exact P23) (Src.of (by repeat (first | exact Cells.all _ | exact Cells.amid hpre rfl (by decide) | exact Cells.head rfl | apply Cells.tail)) (by rfl)) (by rfl) (by omega) rfl ?_)
      intro a2 c2 s2 h2
      rw [show args'.length + 1 = (args' ++ [V.nil]).length from by simp] at h2 ⊢
      rw [show args'.flatMap valV ++ _ = (args' ++ [V.nil]).flatMap valV from by rw [List.flatMap_append]; rfl] at h2
      refine SPL_y (y_assign rfl) rfl ?_
      refine SPL_nil ?_
      refine inBlockP_n ?_
      refine thenP_n ?_
      exact Again.intro ((args' ++ [V.nil], a2, c2, s2, k + 1)) (⟨by dsimp only; rw [hpad, List.replicate_succ', List.append_assoc], by dsimp only; simp; omega, .inr h2⟩) (by dsimp only; simp; omega) (by repeat (first | exact Sub.nil _ | refine Sub.cons rfl ?_)) (by repeat (first | exact Part.nil _ | (apply Part.cons; with_reducible (first | exact P0 | exact P1 | exact P2 | exact P3 | exact P4 | exact P5 | exact P6 | exact P7 | exact P8 | exact P9 | exact P10 | exact P11 | exact P12 | exact P13 | exact P14 | exact P15 | exact P16 | exact P17 | exact P18 | exact P19 | exact P20 | exact P21 | exact P22 | exact P23)) | (apply Part.flat; simp only [List.cons_append, List.nil_append]) | (apply Part.cons; (first | exact P0 | exact P1 | exact P2 | exact P3 | exact P4 | exact P5 | exact P6 | exact P7 | exact P8 | exact P9 | exact P10 | exact P11 | exact P12 | exact P13 | exact P14 | exact P15 | exact P16 | exact P17 | exact P18 | exact P19 | exact P20 | exact P21 | exact P22 | exact P23)) | (apply Part.nilc)))
    intro h1_6
    refine SPL_nil ?_
    refine thenP_n ?_
    refine SP_cond_f rfl ?_
    refine SP_exit ?_
    refine thenP_exit ?_
    refine thenP_exit ?_
    refine inBlockP_hit ?_
    refine thenP_n ?_
    refine SP_seq ?_
    have hW := ArgW.own (hh := hh) (th := th) (m := m) hOw
    have hgd : ∀ j, args'.getD j V.nil = args.getD j V.nil := fun j => by rw [hpad]; exact pad_getD _ _ _
    obtain ⟨g0, oa0, oc0, hg0, _, hrow0, _⟩ := hM.thr ht
    have hstk0 : ∀ H : Hp, Cell (seg :: H) b.thb (0 + th * 5 + 2) (.slice g0.sa t.stack.length g0.sc) := fun H => hrow0 H 2 _ rfl
    refine SP_region ?_
    refine SPL_y (y_move rfl) rfl ?_
    refine SPL_y (y_nil rfl) rfl ?_
    refine SPL_y (y_fa fld_263_2 rfl) rfl ?_
    refine SPL_y (y_load Tryz.isAgg90 rfl (by repeat (first | exact (hstk0 _) | apply Cell.tail))) rfl ?_
    refine SPL_y (y_len_l Tryz.underlying90 rfl) rfl ?_
    refine SPL_y (y_assign rfl) rfl ?_
    refine SPL_nil ?_
    refine thenP_n ?_
    refine SP_seq ?_
    refine SP_seq ?_
    refine SP_region ?_
    refine SPL_y (y_assign rfl) rfl ?_
    refine SPL_nil ?_
    refine thenP_n ?_
    refine SP_block ?_
    refine SP_loop (G := Nat × List TH × Seg × Seg) (fun g => p.nslots.toNat - g.1) (fun g => [(0, pt b.vb), (1, tp b th), (2, I c), (3, .slice aa args'.length cap), (4, I ret), (5, .bool prot), (12, .pointer (some ⟨pq, 0 + cl.p.toNat * 8, none⟩)), (13, I t.stack.length), (14, I g.1)]) (fun g => [g.2.2.1, g.2.2.2]) (fun g => isVM b ph g.2.1 (setTh m th { t with stack := t.stack ++ (slotsL args p.nparams.toNat p.nslots.toNat).take g.1 }) g.2.2.1 ∧ KF hh g.2.1 ∧ ArgW g.2.1 th (setTh m th { t with stack := t.stack ++ (slotsL args p.nparams.toNat p.nslots.toNat).take g.1 }) args' aa g.2.2.2 ∧ g.1 ≤ p.nslots.toNat) ((0, hh, seg, sx)) (⟨by dsimp only; rw [List.take_zero, List.append_nil]; rw [setTh_self ht]; exact hM, KF.refl _, by dsimp only; rw [List.take_zero, List.append_nil]; rw [setTh_self ht]; exact hW, Nat.zero_le _⟩) (by repeat (first | exact Sub.nil _ | refine Sub.cons rfl ?_)) (by repeat (first | exact Part.nil _ | (apply Part.cons; with_reducible (first | exact P0 | exact P1 | exact P2 | exact P3 | exact P4 | exact P5 | exact P6 | exact P7 | exact P8 | exact P9 | exact P10 | exact P11 | exact P12 | exact P13 | exact P14 | exact P15 | exact P16 | exact P17 | exact P18 | exact P19 | exact P20 | exact P21 | exact P22 | exact P23)) | (apply Part.flat; simp only [List.cons_append, List.nil_append]) | (apply Part.cons; (first | exact P0 | exact P1 | exact P2 | exact P3 | exact P4 | exact P5 | exact P6 | exact P7 | exact P8 | exact P9 | exact P10 | exact P11 | exact P12 | exact P13 | exact P14 | exact P15 | exact P16 | exact P17 | exact P18 | exact P19 | exact P20 | exact P21 | exact P22 | exact P23)) | (apply Part.nilc))) ?_
    rintro ⟨i, hhi, sgi, sxi⟩ ⟨hM, hki, hWi, hin0⟩
    dsimp only at hM hki hWi hin0 ⊢
    obtain ⟨pq', hpa', hpi⟩ := hM.proto (i := cl.p) (p := p) hp
    rw [hpa] at hpa'
    injection hpa' with hpa'
    injection hpa' with hpa'
    subst hpa'
    refine SP_seq ?_
    refine SP_seq ?_
    refine SP_region ?_
    refine SPL_y (y_move rfl) rfl ?_
    refine SPL_y (y_move rfl) rfl ?_
    refine SPL_y (y_nil rfl) rfl ?_
    refine SPL_y (y_fa fld_252_1 rfl) rfl ?_
    refine SPL_y (y_load Tryz.isAgg3 rfl (by repeat (first | exact ((hpi _).cell rfl) | apply Cell.tail))) rfl ?_
    refine SPL_ifn (y_lss rfl rfl) rfl ?_ ?_
    · intro h5_5
      refine SPL_nil ?_
      refine thenP_n ?_
      refine SP_cond_f rfl ?_
      refine SP_exit ?_
      refine thenP_exit ?_
      refine thenP_exit ?_
      refine inBlockP_hit ?_
      refine thenP_n ?_
      obtain rfl : i = p.nslots.toNat := by omega
      have hfull : (slotsL args p.nparams.toNat p.nslots.toNat).take p.nslots.toNat = slotsL args p.nparams.toNat p.nslots.toNat := List.take_of_length_le (by simp [slotsL])
      rw [hfull] at hM
      obtain ⟨tt, htt⟩ : ∃ tt, tt = { t with stack := t.stack ++ slotsL args p.nparams.toNat p.nslots.toNat } := ⟨_, rfl⟩
      rw [← htt] at hM
      have ht2 : (setTh m th tt).vs.threads[th]? = some tt := setTh_get ht
      obtain ⟨g, hg⟩ : ∃ g, hhi[th]? = some g := by obtain ⟨g, _, _, hg, _⟩ := hM.thr ht2; exact ⟨g, hg⟩
      obtain ⟨na, nc, r, ss, sf, sn, s0, s2, c0, c2, rfl, hpre, hss, hsf, hsn, hput⟩ := hM.opnT ht2 hg
      have hfl : tt.frames.length < 1000000 := by rw [htt]; exact hr.2.2.2
      refine SP_openAt [r, blk b.thb 263 (c0 ++ [I tt.st, I tt.fn, .slice g.sa tt.stack.length g.sc, .slice g.fa tt.frames.length g.fc, .slice na tt.opn.length nc] ++ c2), s0, ss, sf, sn, s2] (by first | exact P0 | exact P1 | exact P2 | exact P3 | exact P4 | exact P5 | exact P6 | exact P7 | exact P8 | exact P9 | exact P10 | exact P11 | exact P12 | exact P13 | exact P14 | exact P15 | exact P16 | exact P17 | exact P18 | exact P19 | exact P20 | exact P21 | exact P22 | exact P23) ?_
      simp only [List.cons_append, List.nil_append]
      refine SP_region ?_
      refine SPL_y (y_move rfl) rfl ?_
      refine SPL_y (y_move rfl) rfl ?_
      refine SPL_y (y_nil rfl) rfl ?_
      refine SPL_y (y_fa fld_263_3 rfl) rfl ?_
      refine SPL_y (y_load Tryz.isAgg261 rfl (by repeat (first | exact Cell.amid hpre rfl | exact Cell.head rfl | apply Cell.tail))) rfl ?_
      refine SPL_y (y_move rfl) rfl ?_
      refine SPL_y (y_move rfl) rfl ?_
      refine SPL_y (y_move rfl) rfl ?_
      refine SPL_y (y_move rfl) rfl ?_
      refine SPL_y (y_build B331 rfl rfl (by simp only [fillL, List.foldl_cons, List.foldl_nil, List.set_cons_zero, List.set_cons_succ]; exact rfl)) rfl ?_
      refine SPL_one rfl (SP1_slice1 el_261 rfl rfl rfl rfl rfl ?_)
      intro b79
      refine SPL_one rfl (SP1_append el_261 (.inl Tryz.underlying261) rfl rfl hsf (by first | exact P0 | exact P1 | exact P2 | exact P3 | exact P4 | exact P5 | exact P6 | exact P7 | exact P8 | exact P9 | exact P10 | exact P11 | exact P12 | exact P13 | exact P14 | exact P15 | exact P16 | exact P17 | exact P18 | exact P19 | exact P20 | exact P21 | exact P22 | exact P23) (Src.of (by repeat (first | exact Cells.all _ | exact Cells.amid hpre rfl (by decide) | exact Cells.head rfl | apply Cells.tail)) (by rfl)) (by rfl) (by omega) rfl ?_)
      intro fa1 fc1 sf1 hA1
      refine SPL_y (y_nil rfl) rfl ?_
      refine SPL_y (y_fa fld_263_3 rfl) rfl ?_
      refine SPL_one rfl (SP1_storeM (j := 3) Tryz.sizeOf261 rfl rfl rfl hpre (by first | exact U0 | exact U1 | exact U2 | exact U3 | exact U4 | exact U5 | exact U6 | exact U7 | exact U8 | exact U9 | exact U10 | exact U11 | exact U12 | exact U13 | exact U14 | exact U15 | exact U16 | exact U17 | exact U18 | exact U19 | exact U20 | exact U21 | exact U22 | exact U23) (by rfl) ?_)
      simp only [List.set_cons_zero, List.set_cons_succ, List.take_succ_cons, List.take_zero, List.drop_succ_cons, List.drop_zero, List.cons_append, List.nil_append]
      rw [show tt.frames.length + 1 = (tt.frames ++ [(⟨c, 0, t.stack.length, ret, prot⟩ : Fr)]).length from by simp] at hA1 ⊢
      rw [show tt.frames.flatMap frV ++ _ = (tt.frames ++ [(⟨c, 0, t.stack.length, ret, prot⟩ : Fr)]).flatMap frV from by rw [List.flatMap_append]; rfl] at hA1
      refine SPL_nil ?_
      refine bodyP_end (H' := [List.flatten [r, blk b.thb 263 (c0 ++ [I tt.st, I tt.fn, .slice g.sa tt.stack.length g.sc, .slice fa1 (tt.frames ++ [(⟨c, 0, t.stack.length, ret, prot⟩ : Fr)]).length fc1, .slice na tt.opn.length nc] ++ c2), s0, ss, sf1, sn, s2]]) (Res0 rfl) (by repeat (first | exact Part.nil _ | (apply Part.cons; with_reducible (first | exact P0 | exact P1 | exact P2 | exact P3 | exact P4 | exact P5 | exact P6 | exact P7 | exact P8 | exact P9 | exact P10 | exact P11 | exact P12 | exact P13 | exact P14 | exact P15 | exact P16 | exact P17 | exact P18 | exact P19 | exact P20 | exact P21 | exact P22 | exact P23)) | (apply Part.flat; simp only [List.cons_append, List.nil_append]) | (apply Part.cons; (first | exact P0 | exact P1 | exact P2 | exact P3 | exact P4 | exact P5 | exact P6 | exact P7 | exact P8 | exact P9 | exact P10 | exact P11 | exact P12 | exact P13 | exact P14 | exact P15 | exact P16 | exact P17 | exact P18 | exact P19 | exact P20 | exact P21 | exact P22 | exact P23)) | (apply Part.nilc))) ?_
      refine ⟨rfl, hhi.set th { g with fa := fa1, fc := fc1 }, _, ?_, rfl⟩
      have hM3 := hput { tt with frames := (tt.frames ++ [(⟨c, 0, t.stack.length, ret, prot⟩ : Fr)]) } { g with fa := fa1, fc := fc1 } na nc ss sf1 sn hss hA1 hsn
      rw [setTh_setTh] at hM3
      rw [htt] at hM3 ⊢
      exact hM3
    intro h5_5
    refine SPL_nil ?_
    refine thenP_n ?_
    refine SP_cond_t rfl ?_
    refine SP_skip ?_
    refine thenP_n ?_
    refine SP_seq ?_
    refine SP_block ?_
    refine SP_seq ?_
    have hin : i < p.nslots.toNat := by omega
    have hpu : pushM th [if i < p.nparams.toNat then args'.getD i V.nil else V.nil] (setTh m th { t with stack := t.stack ++ (slotsL args p.nparams.toNat p.nslots.toNat).take i }) = some (setTh m th { t with stack := t.stack ++ (slotsL args p.nparams.toNat p.nslots.toNat).take (i + 1) }) := by
      unfold pushM getT
      rw [setTh_get ht]
      dsimp only [bind1]
      have hll : ((slotsL args p.nparams.toNat p.nslots.toNat).take i).length ≤ 1000 := by simp [slotsL]; omega
      rw [if_pos (show (t.stack ++ (slotsL args p.nparams.toNat p.nslots.toNat).take i).length + [if i < p.nparams.toNat then args'.getD i V.nil else V.nil].length ≤ 1000000 from by rw [List.length_append]; simp only [List.length_cons, List.length_nil]; omega), setTh_setTh, slots_take hin hgd, List.append_assoc]
    refine SP_region ?_
    refine SPL_y (y_move rfl) rfl ?_
    refine SPL_y (y_move rfl) rfl ?_
    refine SPL_y (y_nil rfl) rfl ?_
    refine SPL_y (y_fa fld_252_0 rfl) rfl ?_
    refine SPL_y (y_load Tryz.isAgg3 rfl (by repeat (first | exact ((hpi _).cell rfl) | apply Cell.tail))) rfl ?_
    refine SPL_ifn (y_lss rfl rfl) rfl ?_ ?_
    · intro h7_5
      refine SPL_nil ?_
      refine thenP_n ?_
      refine SP_cond_f rfl ?_
      rw [if_neg (by omega)] at hpu
      refine SP_region ?_
      refine SPL_y (y_move rfl) rfl ?_
      refine SPL_y (y_build B42 rfl rfl (by simp only [fillL, List.foldl_cons, List.foldl_nil, List.set_cons_zero, List.set_cons_succ]; exact rfl)) rfl ?_
      refine SPL_one rfl (SP1_slice1 el_90 rfl rfl rfl rfl rfl ?_)
      intro b67
      refine SPL_one rfl (SP1_call (vm_pushK b ph _ _ hpu _ hM) Tryz.call142 rfl rfl (by repeat (first | exact Part.nil _ | (apply Part.cons; with_reducible (first | exact P0 | exact P1 | exact P2 | exact P3 | exact P4 | exact P5 | exact P6 | exact P7 | exact P8 | exact P9 | exact P10 | exact P11 | exact P12 | exact P13 | exact P14 | exact P15 | exact P16 | exact P17 | exact P18 | exact P19 | exact P20 | exact P21 | exact P22 | exact P23)) | (apply Part.flat; simp only [List.cons_append, List.nil_append]) | (apply Part.cons; (first | exact P0 | exact P1 | exact P2 | exact P3 | exact P4 | exact P5 | exact P6 | exact P7 | exact P8 | exact P9 | exact P10 | exact P11 | exact P12 | exact P13 | exact P14 | exact P15 | exact P16 | exact P17 | exact P18 | exact P19 | exact P20 | exact P21 | exact P22 | exact P23)) | (apply Part.nilc))) ?_)
      rintro v post H' ⟨rfl, hh1, sg1, old1, hk1, hM, haw, rfl⟩ hH
      try simp only [List.cons_append, List.nil_append] at hH
      subst hH
      refine SPL_nil ?_
      refine inBlockP_n ?_
      refine thenP_n ?_
      refine SP_region ?_
      refine SPL_y (y_move rfl) rfl ?_
      refine SPL_y (y_add rfl rfl (by omega)) rfl ?_
      refine SPL_y (y_assign rfl) rfl ?_
      refine SPL_nil ?_
      refine thenP_n ?_
      exact Again.intro ((i + 1, hh1, sg1, List.flatten [sxi, old1])) (⟨hM, hki.trans hk1, by have := haw _ _ _ hWi; simpa using this, by dsimp only; omega⟩) (by dsimp only; omega) (by repeat (first | exact Sub.nil _ | refine Sub.cons rfl ?_)) (by repeat (first | exact Part.nil _ | (apply Part.cons; with_reducible (first | exact P0 | exact P1 | exact P2 | exact P3 | exact P4 | exact P5 | exact P6 | exact P7 | exact P8 | exact P9 | exact P10 | exact P11 | exact P12 | exact P13 | exact P14 | exact P15 | exact P16 | exact P17 | exact P18 | exact P19 | exact P20 | exact P21 | exact P22 | exact P23)) | (apply Part.flat; simp only [List.cons_append, List.nil_append]) | (apply Part.cons; (first | exact P0 | exact P1 | exact P2 | exact P3 | exact P4 | exact P5 | exact P6 | exact P7 | exact P8 | exact P9 | exact P10 | exact P11 | exact P12 | exact P13 | exact P14 | exact P15 | exact P16 | exact P17 | exact P18 | exact P19 | exact P20 | exact P21 | exact P22 | exact P23)) | (apply Part.nilc)))
    intro h7_5
    refine SPL_nil ?_
    refine thenP_n ?_
    refine SP_cond_t rfl ?_
    rw [if_pos (by omega)] at hpu
    have hai : i < args'.length := by omega
    obtain ⟨vi, hvi⟩ : ∃ v, args'[i]? = some v := ⟨_, List.getElem?_eq_getElem hai⟩
    rw [show args'.getD i V.nil = vi from by rw [List.getD_eq_getElem?_getD, hvi]; rfl] at hpu
    obtain ⟨wq, wo, rfl, hcw⟩ := (hWi.cells hM).resolve_left (fun h => by rw [h] at hai; simp at hai)
    refine SP_region ?_
    refine SPL_y (y_move rfl) rfl ?_
    refine SPL_y (y_move rfl) rfl ?_
    refine SPL_y (y_move rfl) rfl ?_
    refine SPL_y (y_ia Tryz.underlying90 Tryz.sizeOf42 rfl rfl (by omega)) rfl ?_
    refine SPL_y (y_loads Tryz.isAgg42 Tryz.sizeOf42 rfl rfl (by repeat (first | exact (argw_at (hcw _) hvi) | apply Cells.tail))) rfl ?_
    refine SPL_one rfl (SP1_slice1 el_90 rfl rfl rfl rfl rfl ?_)
    intro b63
    refine SPL_one rfl (SP1_call (vm_pushK b ph _ _ hpu _ hM) Tryz.call142 rfl rfl (by repeat (first | exact Part.nil _ | (apply Part.cons; with_reducible (first | exact P0 | exact P1 | exact P2 | exact P3 | exact P4 | exact P5 | exact P6 | exact P7 | exact P8 | exact P9 | exact P10 | exact P11 | exact P12 | exact P13 | exact P14 | exact P15 | exact P16 | exact P17 | exact P18 | exact P19 | exact P20 | exact P21 | exact P22 | exact P23)) | (apply Part.flat; simp only [List.cons_append, List.nil_append]) | (apply Part.cons; (first | exact P0 | exact P1 | exact P2 | exact P3 | exact P4 | exact P5 | exact P6 | exact P7 | exact P8 | exact P9 | exact P10 | exact P11 | exact P12 | exact P13 | exact P14 | exact P15 | exact P16 | exact P17 | exact P18 | exact P19 | exact P20 | exact P21 | exact P22 | exact P23)) | (apply Part.nilc))) ?_)
    rintro v post H' ⟨rfl, hh1, sg1, old1, hk1, hM, haw, rfl⟩ hH
    try simp only [List.cons_append, List.nil_append] at hH
    subst hH
    refine SPL_nil ?_
    refine inBlockP_n ?_
    refine thenP_n ?_
    refine SP_region ?_
    refine SPL_y (y_move rfl) rfl ?_
    refine SPL_y (y_add rfl rfl (by omega)) rfl ?_
    refine SPL_y (y_assign rfl) rfl ?_
    refine SPL_nil ?_
    refine thenP_n ?_
    exact Again.intro ((i + 1, hh1, sg1, List.flatten [sxi, old1])) (⟨hM, hki.trans hk1, by have := haw _ _ _ hWi; simpa using this, by dsimp only; omega⟩) (by dsimp only; omega) (by repeat (first | exact Sub.nil _ | refine Sub.cons rfl ?_)) (by repeat (first | exact Part.nil _ | (apply Part.cons; with_reducible (first | exact P0 | exact P1 | exact P2 | exact P3 | exact P4 | exact P5 | exact P6 | exact P7 | exact P8 | exact P9 | exact P10 | exact P11 | exact P12 | exact P13 | exact P14 | exact P15 | exact P16 | exact P17 | exact P18 | exact P19 | exact P20 | exact P21 | exact P22 | exact P23)) | (apply Part.flat; simp only [List.cons_append, List.nil_append]) | (apply Part.cons; (first | exact P0 | exact P1 | exact P2 | exact P3 | exact P4 | exact P5 | exact P6 | exact P7 | exact P8 | exact P9 | exact P10 | exact P11 | exact P12 | exact P13 | exact P14 | exact P15 | exact P16 | exact P17 | exact P18 | exact P19 | exact P20 | exact P21 | exact P22 | exact P23)) | (apply Part.nilc)))

end Go.Sl
