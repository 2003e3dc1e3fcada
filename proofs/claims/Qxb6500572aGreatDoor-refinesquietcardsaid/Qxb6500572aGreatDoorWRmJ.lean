/- Walks: package runm, sequences (made by program out of short notes) -/
import Derived.Test.Qxb6500572aGreatDoorWRmI
namespace Go.Sl
open Go Go.Wl Go.Proofs
set_option maxRecDepth 100000
set_option linter.unusedVariables false
set_option linter.unusedSimpArgs false
theorem task_seq {E : RE} {n : Nat} {src : List Ins} {i : Nat} {op depth : Int} {h keep : Nat} {R : RS} {loc : List W} {r : RR} (hr : runM E (n + 1) ⟨src, i, false, op, h, keep, depth⟩ R loc = some r) : Small R ∧ ∃ (hi : i < src.length) (c : Ins), src[i] = c ∧
    (c.op = 5 ∧ r = (-1, 0, R, loc) ∨ c.op = 4 ∧ r = (-1, 0, R.tick, loc) ∨
     (c.op = 1 ∨ c.op = 2 ∨ c.op = 3) ∧ (∃ q, blockM E (runM E n) R loc src i c depth = some q ∧ ((q.2.1 ≠ 0 ∨ q.1 ≠ -1) ∧ r = q ∨ q.2.1 = 0 ∧ q.1 = -1 ∧ runM E n ⟨src, ((ends src i).2 + 1).toNat, false, op, h, keep, depth⟩ q.2.2.1 q.2.2.2 = some r)) ∨
     ¬ (c.op = 1 ∨ c.op = 2 ∨ c.op = 3 ∨ c.op = 4 ∨ c.op = 5) ∧ (∃ q, stepM E (runM E n) R loc c depth = some q ∧ ((q.2.1 ≠ 0 ∨ q.1 ≠ -1) ∧ r = q ∨ q.2.1 = 0 ∧ q.1 = -1 ∧ runM E n ⟨src, i + 1, false, op, h, keep, depth⟩ q.2.2.1 q.2.2.2 = some r))) := by
  have hr : taskM E (runM E n) ⟨src, i, false, op, h, keep, depth⟩ R loc = some r := hr
  refine ⟨small_of hr, ?_⟩
  unfold taskM at hr
  split at hr
  · cases hr
  rw [if_neg (by simp)] at hr
  dsimp only at hr
  cases hg : src[i]? with
  | none => rw [hg] at hr; cases hr
  | some c =>
    rw [hg] at hr
    dsimp only at hr
    have hi := (List.getElem?_eq_some_iff.1 hg).1
    refine ⟨hi, c, (List.getElem?_eq_some_iff.1 hg).2, ?_⟩
    have fin : ∀ {q : RR} {t : Tsk}, (if q.2.1 ≠ 0 ∨ q.1 ≠ -1 then some q else runM E n t q.2.2.1 q.2.2.2) = some r → ((q.2.1 ≠ 0 ∨ q.1 ≠ -1) ∧ r = q ∨ q.2.1 = 0 ∧ q.1 = -1 ∧ runM E n t q.2.2.1 q.2.2.2 = some r) := fun {q t} hq => by
      split at hq
      · rename_i h1; simp only [Option.some.injEq] at hq; exact .inl ⟨h1, hq.symm⟩
      · rename_i h1
        exact .inr ⟨Decidable.byContradiction fun e => h1 (.inl e), Decidable.byContradiction fun e => h1 (.inr e), hq⟩
    split at hr
    · rename_i h5; simp only [Option.some.injEq] at hr; exact .inl ⟨h5, hr.symm⟩
    rename_i h5
    split at hr
    · rename_i h4; simp only [Option.some.injEq] at hr; exact .inr (.inl ⟨h4, hr.symm⟩)
    rename_i h4
    split at hr
    · rename_i h1
      obtain ⟨q, hq, hrest⟩ := Option.bind_eq_some_iff.1 hr
      exact .inr (.inr (.inl ⟨h1, q, hq, fin hrest⟩))
    · rename_i h1
      obtain ⟨q, hq, hrest⟩ := Option.bind_eq_some_iff.1 hr
      exact .inr (.inr (.inr ⟨by omega, q, hq, fin hrest⟩))

set_option maxHeartbeats 8000000 in
theorem rm_seq (x pb kb : Nat) (rv : Value) (E : RE) (sp sx : Seg) (hC : RC E pb rv sp sx) (n : Nat) (hQ : ∀ m, m < n → SeqOk E x pb kb rv sp sx m) (R : RS) (s : Seg) (la : Option Addr) (lc : Nat) (loc : List W) (sl sk : Seg) (src : List Ins) (sa : Option Addr) (sc i : Nat) (op depth : Int) (h keep : Nat) (r : RR) (hm : isR x (pvp pb) rv (pvp kb) E R s) (hl : Arr 110 2 la loc.length lc (loc.flatMap wv) sl) (hlo : loc.length ≤ 100) (hk : isMm kb R.mem sk) (hsm : src ∈ E.src) (hAt : SrcAt sx src sa sc) (hd : 0 ≤ depth ∧ depth ≤ 100) (hr : runM E n ⟨src, i, false, op, h, keep, depth⟩ R loc = some r) : Spec Tryz.prog 140 [pvp x, .slice sa src.length sc, I i, .slice la loc.length lc, I depth] [s, sl, sk, sp, sx] (Ret (RPost x pb kb rv E sp sx la loc.length lc r)) := by
  obtain ⟨hsl, hwl⟩ := hC.wl src hsm
  have hi0 : i < src.length := by
    cases n with
    | zero => cases hr
    | succ n' => exact (task_seq hr).2.1
  have hAt0 := hAt
  obtain ⟨s6, sv, s7, rfl, hs⟩ := hAt
  obtain ⟨bs, sps, rfl, hsc, hsps, rfl⟩ := hs.row (by omega)
  refine Spec_enter Tryz.func140 rfl Tryz.ntmps140 rfl ?_
  show SP _ _ _ _ _ [(0, _), (1, _), (2, _), (3, _), (4, _)] _
  refine SP_seq ?_
  refine SP_region ?_
  refine SPL_y (y_assign rfl) rfl ?_
  refine SPL_y (y_assign rfl) rfl ?_
  refine SPL_nil ?_
  refine thenP_n ?_
  refine SP_block ?_
  refine SP_loop (G := Nat × Nat × RS × List W × Seg × Seg × Seg) (fun z => z.1) (fun z => [(0, pvp x), (1, .slice (some ⟨bs, 0, none⟩) src.length sc), (2, I z.2.1), (3, .slice la loc.length lc), (4, I depth)]) (fun z => [z.2.2.2.2.1, z.2.2.2.2.2.1, z.2.2.2.2.2.2, sp, List.flatten [s6, blk bs 87 (codeV src ++ sps), s7]]) (fun z => z.1 ≤ n ∧ isR x (pvp pb) rv (pvp kb) E z.2.2.1 z.2.2.2.2.1 ∧ Arr 110 2 la loc.length lc (z.2.2.2.1.flatMap wv) z.2.2.2.2.2.1 ∧ isMm kb z.2.2.1.mem z.2.2.2.2.2.2 ∧ runM E z.1 ⟨src, z.2.1, false, op, h, keep, depth⟩ z.2.2.1 z.2.2.2.1 = some r) ((n, i, R, loc, s, sl, sk)) (⟨Nat.le_refl _, hm, hl, hk, hr⟩) (by repeat (first | exact Sub.nil _ | refine Sub.cons rfl ?_)) (by repeat (first | exact Part.nil _ | (apply Part.cons; (first | exact P0 | exact P1 | exact P2 | exact P3 | exact P4 | exact P5 | exact P6 | exact P7 | exact P8 | exact P9 | exact P10 | exact P11 | exact P12 | exact P13 | exact P14 | exact P15 | exact P16 | exact P17 | exact P18 | exact P19 | exact P20 | exact P21 | exact P22 | exact P23)) | (apply Part.flat; simp only [List.cons_append, List.nil_append]) | (apply Part.nilc))) ?_
  rintro ⟨k, i9, R9, loc9, s9, sl9, sk9⟩ ⟨hkn, hm9, hl9, hk9, hr9⟩
  dsimp only at hkn hm9 hl9 hk9 hr9 ⊢
  have hll := flat_inj hl9
  obtain ⟨k, rfl⟩ : ∃ k', k = k' + 1 := by
    cases k with
    | zero => cases hr9
    | succ k' => exact ⟨k', rfl⟩
  obtain ⟨hS9, hi9, c, hci, hcase⟩ := task_seq hr9
  refine SP_block ?_
  refine SP_seq ?_
  refine SP_seq ?_
  refine SP_openAt [s6, blk bs 87 (codeV src ++ sps), s7] (by first | exact P0 | exact P1 | exact P2 | exact P3 | exact P4 | exact P5 | exact P6 | exact P7 | exact P8 | exact P9 | exact P10 | exact P11 | exact P12 | exact P13 | exact P14 | exact P15 | exact P16 | exact P17 | exact P18 | exact P19 | exact P20 | exact P21 | exact P22 | exact P23) ?_
  simp only [List.cons_append, List.nil_append]
  refine SP_region ?_
  refine SPL_y (y_move rfl) rfl ?_
  refine SPL_y (y_move rfl) rfl ?_
  refine SPL_y (y_len_l Tryz.underlying34 rfl) rfl ?_
  refine SPL_y (y_geqNo rfl rfl (by omega)) rfl ?_
  refine SPL_nil ?_
  refine thenP_n ?_
  refine SP_cond_f rfl ?_
  refine SP_skip ?_
  refine thenP_n ?_
  refine SP_seq ?_
  refine SP_region ?_
  refine SPL_y (y_move rfl) rfl ?_
  refine SPL_y (y_move rfl) rfl ?_
  refine SPL_y (y_ia Tryz.underlying34 Tryz.sizeOf87 rfl rfl (by omega)) rfl ?_
  refine SPL_y (y_loads Tryz.isAgg87 Tryz.sizeOf87 rfl rfl (by repeat (first | exact flat_cellsE insV_len (i := i9) rfl hi9 hci | apply Cells.tail))) rfl ?_
  refine SPL_one rfl (SP1_alloc Tryz.zeroValue87 rfl rfl ?_)
  intro b12
  refine SPL_one rfl (SP1_storeAll Tryz.sizeOf87 rfl rfl rfl rfl rfl (by first | exact U0 | exact U1 | exact U2 | exact U3 | exact U4 | exact U5 | exact U6 | exact U7 | exact U8 | exact U9 | exact U10 | exact U11 | exact U12 | exact U13 | exact U14 | exact U15 | exact U16 | exact U17 | exact U18 | exact U19 | exact U20 | exact U21 | exact U22 | exact U23) (by rfl) ?_)
  refine SPL_nil ?_
  refine thenP_n ?_
  refine SP_seq ?_
  refine SP_seq ?_
  refine SP_region ?_
  refine SPL_y (y_fa fld_87_0 rfl) rfl ?_
  refine SPL_y (y_load Tryz.isAgg3 rfl (by repeat (first | exact Cell.head rfl | apply Cell.tail))) rfl ?_
  refine SPL_if (y_eql rfl rfl) rfl ?_ ?_
  · intro h4_2
    refine SPL_nil ?_
    refine thenP_n ?_
    refine SP_cond_t rfl ?_
    refine SP_seq ?_
    refine SP_region ?_
    refine SPL_y (y_assign rfl) rfl ?_
    refine SPL_y (y_assign rfl) rfl ?_
    refine SPL_nil ?_
    refine thenP_n ?_
    refine SP_ret ?_
    refine thenP_ret (inBlockP_ret (thenP_ret (inBlockP_ret (bodyP_ret (H' := [s9, sl9, sk9, sp, List.flatten [s6, blk bs 87 (codeV src ++ sps), s7]]) (Res2 rfl rfl rfl) (by repeat (first | exact Part.nil _ | (apply Part.cons; (first | exact P0 | exact P1 | exact P2 | exact P3 | exact P4 | exact P5 | exact P6 | exact P7 | exact P8 | exact P9 | exact P10 | exact P11 | exact P12 | exact P13 | exact P14 | exact P15 | exact P16 | exact P17 | exact P18 | exact P19 | exact P20 | exact P21 | exact P22 | exact P23)) | (apply Part.flat; simp only [List.cons_append, List.nil_append]) | (apply Part.nilc))) ?_))))
    rcases hcase with ⟨h1, rfl⟩ | ⟨h1, _⟩ | ⟨h1, _⟩ | ⟨h1, _⟩
    · exact ⟨_, _, _, _, rfl, rfl, hm9, fun _ => rfl, hl9, hk9⟩
    · omega
    · omega
    · omega
  intro h4_2
  refine SPL_nil ?_
  refine thenP_n ?_
  refine SP_cond_f rfl ?_
  refine SP_skip ?_
  refine thenP_n ?_
  refine SP_seq ?_
  refine SP_seq ?_
  refine SP_region ?_
  refine SPL_y (y_fa fld_87_0 rfl) rfl ?_
  refine SPL_y (y_load Tryz.isAgg3 rfl (by repeat (first | exact Cell.head rfl | apply Cell.tail))) rfl ?_
  refine SPL_if (y_eql rfl rfl) rfl ?_ ?_
  · intro h6_2
    refine SPL_nil ?_
    refine thenP_n ?_
    refine SP_cond_t rfl ?_
    refine SP_seq ?_
    obtain ⟨sa1, sc1, ss1, rfl, hst1⟩ := hm9
    refine SP_openAt [blk x 119 (instR (.pointer (some ⟨pb, 0, none⟩)) rv (.pointer (some ⟨kb, 0, none⟩)) (.slice sa1 R9.st.length sc1) E R9), ss1] (by first | exact P0 | exact P1 | exact P2 | exact P3 | exact P4 | exact P5 | exact P6 | exact P7 | exact P8 | exact P9 | exact P10 | exact P11 | exact P12 | exact P13 | exact P14 | exact P15 | exact P16 | exact P17 | exact P18 | exact P19 | exact P20 | exact P21 | exact P22 | exact P23) ?_
    simp only [List.cons_append, List.nil_append, instR]
    refine SP_region ?_
    refine SPL_y (y_move rfl) rfl ?_
    refine SPL_y (y_nil rfl) rfl ?_
    refine SPL_y (y_fa fld_119_6 rfl) rfl ?_
    refine SPL_y (y_load Tryz.isAgg3 rfl (by repeat (first | exact Cell.head rfl | apply Cell.tail))) rfl ?_
    refine SPL_y (y_addw rfl rfl rfl) rfl ?_
    refine SPL_y (y_nil rfl) rfl ?_
    refine SPL_y (y_fa fld_119_6 rfl) rfl ?_
    refine SPL_one rfl (SP1_store Tryz.sizeOf3 rfl rfl rfl (by first | exact U0 | exact U1 | exact U2 | exact U3 | exact U4 | exact U5 | exact U6 | exact U7 | exact U8 | exact U9 | exact U10 | exact U11 | exact U12 | exact U13 | exact U14 | exact U15 | exact U16 | exact U17 | exact U18 | exact U19 | exact U20 | exact U21 | exact U22 | exact U23) (by rfl) ?_)
    refine SPL_nil ?_
    refine thenP_n ?_
    refine SP_seq ?_
    refine SP_region ?_
    refine SPL_y (y_assign rfl) rfl ?_
    refine SPL_y (y_assign rfl) rfl ?_
    refine SPL_nil ?_
    refine thenP_n ?_
    refine SP_ret ?_
    refine thenP_ret (inBlockP_ret (thenP_ret (inBlockP_ret (bodyP_ret (H' := [List.flatten [blk x 119 (instR (.pointer (some ⟨pb, 0, none⟩)) rv (.pointer (some ⟨kb, 0, none⟩)) (.slice sa1 R9.tick.st.length sc1) E R9.tick), ss1], sl9, sk9, sp, List.flatten [s6, blk bs 87 (codeV src ++ sps), s7]]) (Res2 rfl rfl rfl) (by repeat (first | exact Part.nil _ | (apply Part.cons; (first | exact P0 | exact P1 | exact P2 | exact P3 | exact P4 | exact P5 | exact P6 | exact P7 | exact P8 | exact P9 | exact P10 | exact P11 | exact P12 | exact P13 | exact P14 | exact P15 | exact P16 | exact P17 | exact P18 | exact P19 | exact P20 | exact P21 | exact P22 | exact P23)) | (apply Part.flat; simp only [List.cons_append, List.nil_append]) | (apply Part.nilc))) ?_))))
    rcases hcase with ⟨h1, _⟩ | ⟨h1, rfl⟩ | ⟨h1, _⟩ | ⟨h1, _⟩
    · omega
    · exact ⟨_, _, _, _, rfl, rfl, ⟨sa1, sc1, ss1, rfl, hst1⟩, fun _ => rfl, hl9, hk9⟩
    · omega
    · omega
  intro h6_2
  refine SPL_nil ?_
  refine thenP_n ?_
  refine SP_cond_f rfl ?_
  refine SP_skip ?_
  refine thenP_n ?_
  refine SP_seq ?_
  refine SP_region ?_
  refine SPL_y (y_assign rfl) rfl ?_
  refine SPL_y (y_assign rfl) rfl ?_
  refine SPL_nil ?_
  refine thenP_n ?_
  refine SP_seq ?_
  refine SP_seq ?_
  refine SP_region ?_
  refine SPL_y (y_fa fld_87_0 rfl) rfl ?_
  refine SPL_y (y_load Tryz.isAgg3 rfl (by repeat (first | exact Cell.head rfl | apply Cell.tail))) rfl ?_
  refine SPL_if (y_eql rfl rfl) rfl ?_ ?_
  · intro h10_2
    refine SPL_y (y_move rfl) rfl ?_
    refine SPL_gn rfl rfl rfl rfl ?_
    refine SPL_gn rfl rfl rfl rfl ?_
    refine SPL_gn rfl rfl rfl rfl ?_
    refine SPL_y (y_pick_t rfl rfl) rfl ?_
    refine SPL_y (y_move rfl) rfl ?_
    refine SPL_gn rfl rfl rfl rfl ?_
    refine SPL_gn rfl rfl rfl rfl ?_
    refine SPL_gn rfl rfl rfl rfl ?_
    refine SPL_y (y_pick_t rfl rfl) rfl ?_
    refine SPL_nil ?_
    refine thenP_n ?_
    refine SP_cond_t rfl ?_
    refine SP_seq ?_
    rcases hcase with ⟨h1, _⟩ | ⟨h1, _⟩ | ⟨hb3, ⟨qb, qe, Q, ql⟩, hqb, hc2⟩ | ⟨h1, _⟩
    · omega
    · omega
    rotate_left
    · omega
    dsimp only at hc2
    have hbk := rm_block x pb kb rv E sp _ hC k (fun m hm => hQ m (by omega)) R9 s9 hm9 la lc loc9 sl9 (by rw [hll]; exact hl9) (by omega) sk9 hk9 src hsm (some ⟨bs, 0, none⟩) sc hAt0 i9 hi9 c hci depth hd hS9 (qb, qe, Q, ql) hb3 hqb
    rw [hll] at hbk
    refine SP_region ?_
    refine SPL_y (y_move rfl) rfl ?_
    refine SPL_y (y_move rfl) rfl ?_
    refine SPL_y (y_move rfl) rfl ?_
    refine SPL_y (y_move rfl) rfl ?_
    refine SPL_y (y_move rfl) rfl ?_
    refine SPL_one rfl (SP1_call (hbk) Tryz.call149 rfl rfl (by repeat (first | exact Part.nil _ | (apply Part.cons; (first | exact P0 | exact P1 | exact P2 | exact P3 | exact P4 | exact P5 | exact P6 | exact P7 | exact P8 | exact P9 | exact P10 | exact P11 | exact P12 | exact P13 | exact P14 | exact P15 | exact P16 | exact P17 | exact P18 | exact P19 | exact P20 | exact P21 | exact P22 | exact P23)) | (apply Part.flat; simp only [List.cons_append, List.nil_append]) | (apply Part.nilc))) ?_)
    rintro v post H' ⟨s10, sl10, sk10, st', rfl, rfl, hm10, hst', hl10, hk10⟩ hH
    try simp only [List.cons_append, List.nil_append] at hH
    subst hH
    dsimp only at hm10 hst' hl10 hk10 ⊢
    refine SPL_y (y_move rfl) rfl ?_
    refine SPL_y (y_ext rfl rfl) rfl ?_
    refine SPL_y (y_ext rfl rfl) rfl ?_
    refine SPL_y (y_assign rfl) rfl ?_
    refine SPL_y (y_assign rfl) rfl ?_
    refine SPL_nil ?_
    refine thenP_n ?_
    obtain ⟨en, hen, henl⟩ := ends_i hi9
    refine SP_openAt [s6, blk bs 87 (codeV src ++ sps), s7] (by first | exact P0 | exact P1 | exact P2 | exact P3 | exact P4 | exact P5 | exact P6 | exact P7 | exact P8 | exact P9 | exact P10 | exact P11 | exact P12 | exact P13 | exact P14 | exact P15 | exact P16 | exact P17 | exact P18 | exact P19 | exact P20 | exact P21 | exact P22 | exact P23) ?_
    simp only [List.cons_append, List.nil_append]
    refine SP_region ?_
    refine SPL_y (y_move rfl) rfl ?_
    refine SPL_y (y_move rfl) rfl ?_
    refine SPL_one rfl (SP1_call (pm_Ends (some ⟨bs, 0, none⟩) sc src _ hs i9 hi9 (by omega)) Tryz.call93 rfl rfl (by repeat (first | exact Part.nil _ | (apply Part.cons; (first | exact P0 | exact P1 | exact P2 | exact P3 | exact P4 | exact P5 | exact P6 | exact P7 | exact P8 | exact P9 | exact P10 | exact P11 | exact P12 | exact P13 | exact P14 | exact P15 | exact P16 | exact P17 | exact P18 | exact P19 | exact P20 | exact P21 | exact P22 | exact P23)) | (apply Part.flat; simp only [List.cons_append, List.nil_append]) | (apply Part.nilc))) ?_)
    rintro v post H' ⟨rfl, rfl⟩ hH
    try simp only [List.cons_append, List.nil_append] at hH
    subst hH
    rw [hen]
    rw [hen, show ((en : Int) + 1).toNat = en + 1 by omega] at hc2
    refine SPL_y (y_move rfl) rfl ?_
    refine SPL_y (y_ext rfl rfl) rfl ?_
    refine SPL_y (y_ext rfl rfl) rfl ?_
    refine SPL_y (y_assign rfl) rfl ?_
    refine SPL_nil ?_
    refine thenP_n ?_
    refine SP_seq ?_
    refine SP_seq ?_
    refine SP_region ?_
    refine SPL_y (y_move rfl) rfl ?_
    refine SPL_if (y_neq rfl rfl) rfl ?_ ?_
    · intro h14_1
      refine SPL_y (y_move rfl) rfl ?_
      refine SPL_gn rfl rfl rfl rfl ?_
      refine SPL_gn rfl rfl rfl rfl ?_
      refine SPL_y (y_pick_t rfl rfl) rfl ?_
      refine SPL_nil ?_
      refine thenP_n ?_
      refine SP_cond_t rfl ?_
      refine SP_seq ?_
      refine SP_region ?_
      refine SPL_y (y_move rfl) rfl ?_
      refine SPL_y (y_move rfl) rfl ?_
      refine SPL_y (y_assign rfl) rfl ?_
      refine SPL_y (y_assign rfl) rfl ?_
      refine SPL_nil ?_
      refine thenP_n ?_
      refine SP_ret ?_
      refine thenP_ret (inBlockP_ret (thenP_ret (inBlockP_ret (bodyP_ret (H' := [s10, sl10, sk10, sp, List.flatten [s6, blk bs 87 (codeV src ++ sps), s7]]) (Res2 rfl rfl rfl) (by repeat (first | exact Part.nil _ | (apply Part.cons; (first | exact P0 | exact P1 | exact P2 | exact P3 | exact P4 | exact P5 | exact P6 | exact P7 | exact P8 | exact P9 | exact P10 | exact P11 | exact P12 | exact P13 | exact P14 | exact P15 | exact P16 | exact P17 | exact P18 | exact P19 | exact P20 | exact P21 | exact P22 | exact P23)) | (apply Part.flat; simp only [List.cons_append, List.nil_append]) | (apply Part.nilc))) ?_))))
      obtain ⟨_, rfl⟩ | ⟨h2, h3, _⟩ := hc2
      · exact ⟨_, _, _, st', rfl, rfl, hm10, hst', hl10, hk10⟩
      · exact absurd h2 h14_1
    intro h14_1
    refine SPL_y (y_move rfl) rfl ?_
    refine SPL_gy rfl rfl ?_
    refine SPL_y (y_move rfl) rfl ?_
    refine SPL_gy rfl rfl ?_
    refine SPL_if (y_neq rfl rfl) rfl ?_ ?_
    · intro h14_4
      refine SPL_y (y_pick_f rfl rfl) rfl ?_
      refine SPL_nil ?_
      refine thenP_n ?_
      refine SP_cond_t rfl ?_
      refine SP_seq ?_
      refine SP_region ?_
      refine SPL_y (y_move rfl) rfl ?_
      refine SPL_y (y_move rfl) rfl ?_
      refine SPL_y (y_assign rfl) rfl ?_
      refine SPL_y (y_assign rfl) rfl ?_
      refine SPL_nil ?_
      refine thenP_n ?_
      refine SP_ret ?_
      refine thenP_ret (inBlockP_ret (thenP_ret (inBlockP_ret (bodyP_ret (H' := [s10, sl10, sk10, sp, List.flatten [s6, blk bs 87 (codeV src ++ sps), s7]]) (Res2 rfl rfl rfl) (by repeat (first | exact Part.nil _ | (apply Part.cons; (first | exact P0 | exact P1 | exact P2 | exact P3 | exact P4 | exact P5 | exact P6 | exact P7 | exact P8 | exact P9 | exact P10 | exact P11 | exact P12 | exact P13 | exact P14 | exact P15 | exact P16 | exact P17 | exact P18 | exact P19 | exact P20 | exact P21 | exact P22 | exact P23)) | (apply Part.flat; simp only [List.cons_append, List.nil_append]) | (apply Part.nilc))) ?_))))
      obtain ⟨_, rfl⟩ | ⟨h2, h3, _⟩ := hc2
      · exact ⟨_, _, _, st', rfl, rfl, hm10, hst', hl10, hk10⟩
      · exact absurd h3 h14_4
    intro h14_4
    refine SPL_y (y_pick_f rfl rfl) rfl ?_
    refine SPL_nil ?_
    refine thenP_n ?_
    refine SP_cond_f rfl ?_
    refine SP_skip ?_
    refine thenP_n ?_
    refine SP_region ?_
    refine SPL_y (y_move rfl) rfl ?_
    refine SPL_y (y_add rfl rfl (by omega)) rfl ?_
    refine SPL_y (y_assign rfl) rfl ?_
    refine SPL_nil ?_
    refine inBlockP_n ?_
    refine thenP_n ?_
    obtain ⟨h2, _⟩ | ⟨h2, h3, h4⟩ := hc2
    · rcases h2 with h2 | h2
      · exact absurd h2 h14_1
      · exact absurd h2 h14_4
    obtain rfl : st' = Q.st := hst' h2
    exact Again.intro ((k, en + 1, Q, ql, s10, sl10, sk10)) (⟨by dsimp only; omega, hm10, hl10, hk10, h4⟩) (by simp only []; omega) (by repeat (first | exact Sub.nil _ | refine Sub.cons rfl ?_)) (by repeat (first | exact Part.nil _ | (apply Part.cons; (first | exact P0 | exact P1 | exact P2 | exact P3 | exact P4 | exact P5 | exact P6 | exact P7 | exact P8 | exact P9 | exact P10 | exact P11 | exact P12 | exact P13 | exact P14 | exact P15 | exact P16 | exact P17 | exact P18 | exact P19 | exact P20 | exact P21 | exact P22 | exact P23)) | (apply Part.flat; simp only [List.cons_append, List.nil_append]) | (apply Part.nilc)))
  intro h10_2
  refine SPL_y (y_move rfl) rfl ?_
  refine SPL_gy rfl rfl ?_
  refine SPL_y (y_fa fld_87_0 rfl) rfl ?_
  refine SPL_gy rfl rfl ?_
  refine SPL_y (y_load Tryz.isAgg3 rfl (by repeat (first | exact Cell.head rfl | apply Cell.tail))) rfl ?_
  refine SPL_gy rfl rfl ?_
  refine SPL_if (y_eql rfl rfl) rfl ?_ ?_
  · intro h10_6
    refine SPL_y (y_pick_f rfl rfl) rfl ?_
    refine SPL_y (y_move rfl) rfl ?_
    refine SPL_gn rfl rfl rfl rfl ?_
    refine SPL_gn rfl rfl rfl rfl ?_
    refine SPL_gn rfl rfl rfl rfl ?_
    refine SPL_y (y_pick_t rfl rfl) rfl ?_
    refine SPL_nil ?_
    refine thenP_n ?_
    refine SP_cond_t rfl ?_
    refine SP_seq ?_
    rcases hcase with ⟨h1, _⟩ | ⟨h1, _⟩ | ⟨hb3, ⟨qb, qe, Q, ql⟩, hqb, hc2⟩ | ⟨h1, _⟩
    · omega
    · omega
    rotate_left
    · omega
    dsimp only at hc2
    have hbk := rm_block x pb kb rv E sp _ hC k (fun m hm => hQ m (by omega)) R9 s9 hm9 la lc loc9 sl9 (by rw [hll]; exact hl9) (by omega) sk9 hk9 src hsm (some ⟨bs, 0, none⟩) sc hAt0 i9 hi9 c hci depth hd hS9 (qb, qe, Q, ql) hb3 hqb
    rw [hll] at hbk
    refine SP_region ?_
    refine SPL_y (y_move rfl) rfl ?_
    refine SPL_y (y_move rfl) rfl ?_
    refine SPL_y (y_move rfl) rfl ?_
    refine SPL_y (y_move rfl) rfl ?_
    refine SPL_y (y_move rfl) rfl ?_
    refine SPL_one rfl (SP1_call (hbk) Tryz.call149 rfl rfl (by repeat (first | exact Part.nil _ | (apply Part.cons; (first | exact P0 | exact P1 | exact P2 | exact P3 | exact P4 | exact P5 | exact P6 | exact P7 | exact P8 | exact P9 | exact P10 | exact P11 | exact P12 | exact P13 | exact P14 | exact P15 | exact P16 | exact P17 | exact P18 | exact P19 | exact P20 | exact P21 | exact P22 | exact P23)) | (apply Part.flat; simp only [List.cons_append, List.nil_append]) | (apply Part.nilc))) ?_)
    rintro v post H' ⟨s10, sl10, sk10, st', rfl, rfl, hm10, hst', hl10, hk10⟩ hH
    try simp only [List.cons_append, List.nil_append] at hH
    subst hH
    dsimp only at hm10 hst' hl10 hk10 ⊢
    refine SPL_y (y_move rfl) rfl ?_
    refine SPL_y (y_ext rfl rfl) rfl ?_
    refine SPL_y (y_ext rfl rfl) rfl ?_
    refine SPL_y (y_assign rfl) rfl ?_
    refine SPL_y (y_assign rfl) rfl ?_
    refine SPL_nil ?_
    refine thenP_n ?_
    obtain ⟨en, hen, henl⟩ := ends_i hi9
    refine SP_openAt [s6, blk bs 87 (codeV src ++ sps), s7] (by first | exact P0 | exact P1 | exact P2 | exact P3 | exact P4 | exact P5 | exact P6 | exact P7 | exact P8 | exact P9 | exact P10 | exact P11 | exact P12 | exact P13 | exact P14 | exact P15 | exact P16 | exact P17 | exact P18 | exact P19 | exact P20 | exact P21 | exact P22 | exact P23) ?_
    simp only [List.cons_append, List.nil_append]
    refine SP_region ?_
    refine SPL_y (y_move rfl) rfl ?_
    refine SPL_y (y_move rfl) rfl ?_
    refine SPL_one rfl (SP1_call (pm_Ends (some ⟨bs, 0, none⟩) sc src _ hs i9 hi9 (by omega)) Tryz.call93 rfl rfl (by repeat (first | exact Part.nil _ | (apply Part.cons; (first | exact P0 | exact P1 | exact P2 | exact P3 | exact P4 | exact P5 | exact P6 | exact P7 | exact P8 | exact P9 | exact P10 | exact P11 | exact P12 | exact P13 | exact P14 | exact P15 | exact P16 | exact P17 | exact P18 | exact P19 | exact P20 | exact P21 | exact P22 | exact P23)) | (apply Part.flat; simp only [List.cons_append, List.nil_append]) | (apply Part.nilc))) ?_)
    rintro v post H' ⟨rfl, rfl⟩ hH
    try simp only [List.cons_append, List.nil_append] at hH
    subst hH
    rw [hen]
    rw [hen, show ((en : Int) + 1).toNat = en + 1 by omega] at hc2
    refine SPL_y (y_move rfl) rfl ?_
    refine SPL_y (y_ext rfl rfl) rfl ?_
    refine SPL_y (y_ext rfl rfl) rfl ?_
    refine SPL_y (y_assign rfl) rfl ?_
    refine SPL_nil ?_
    refine thenP_n ?_
    refine SP_seq ?_
    refine SP_seq ?_
    refine SP_region ?_
    refine SPL_y (y_move rfl) rfl ?_
    refine SPL_if (y_neq rfl rfl) rfl ?_ ?_
    · intro h14_1
      refine SPL_y (y_move rfl) rfl ?_
      refine SPL_gn rfl rfl rfl rfl ?_
      refine SPL_gn rfl rfl rfl rfl ?_
      refine SPL_y (y_pick_t rfl rfl) rfl ?_
      refine SPL_nil ?_
      refine thenP_n ?_
      refine SP_cond_t rfl ?_
      refine SP_seq ?_
      refine SP_region ?_
      refine SPL_y (y_move rfl) rfl ?_
      refine SPL_y (y_move rfl) rfl ?_
      refine SPL_y (y_assign rfl) rfl ?_
      refine SPL_y (y_assign rfl) rfl ?_
      refine SPL_nil ?_
      refine thenP_n ?_
      refine SP_ret ?_
      refine thenP_ret (inBlockP_ret (thenP_ret (inBlockP_ret (bodyP_ret (H' := [s10, sl10, sk10, sp, List.flatten [s6, blk bs 87 (codeV src ++ sps), s7]]) (Res2 rfl rfl rfl) (by repeat (first | exact Part.nil _ | (apply Part.cons; (first | exact P0 | exact P1 | exact P2 | exact P3 | exact P4 | exact P5 | exact P6 | exact P7 | exact P8 | exact P9 | exact P10 | exact P11 | exact P12 | exact P13 | exact P14 | exact P15 | exact P16 | exact P17 | exact P18 | exact P19 | exact P20 | exact P21 | exact P22 | exact P23)) | (apply Part.flat; simp only [List.cons_append, List.nil_append]) | (apply Part.nilc))) ?_))))
      obtain ⟨_, rfl⟩ | ⟨h2, h3, _⟩ := hc2
      · exact ⟨_, _, _, st', rfl, rfl, hm10, hst', hl10, hk10⟩
      · exact absurd h2 h14_1
    intro h14_1
    refine SPL_y (y_move rfl) rfl ?_
    refine SPL_gy rfl rfl ?_
    refine SPL_y (y_move rfl) rfl ?_
    refine SPL_gy rfl rfl ?_
    refine SPL_if (y_neq rfl rfl) rfl ?_ ?_
    · intro h14_4
      refine SPL_y (y_pick_f rfl rfl) rfl ?_
      refine SPL_nil ?_
      refine thenP_n ?_
      refine SP_cond_t rfl ?_
      refine SP_seq ?_
      refine SP_region ?_
      refine SPL_y (y_move rfl) rfl ?_
      refine SPL_y (y_move rfl) rfl ?_
      refine SPL_y (y_assign rfl) rfl ?_
      refine SPL_y (y_assign rfl) rfl ?_
      refine SPL_nil ?_
      refine thenP_n ?_
      refine SP_ret ?_
      refine thenP_ret (inBlockP_ret (thenP_ret (inBlockP_ret (bodyP_ret (H' := [s10, sl10, sk10, sp, List.flatten [s6, blk bs 87 (codeV src ++ sps), s7]]) (Res2 rfl rfl rfl) (by repeat (first | exact Part.nil _ | (apply Part.cons; (first | exact P0 | exact P1 | exact P2 | exact P3 | exact P4 | exact P5 | exact P6 | exact P7 | exact P8 | exact P9 | exact P10 | exact P11 | exact P12 | exact P13 | exact P14 | exact P15 | exact P16 | exact P17 | exact P18 | exact P19 | exact P20 | exact P21 | exact P22 | exact P23)) | (apply Part.flat; simp only [List.cons_append, List.nil_append]) | (apply Part.nilc))) ?_))))
      obtain ⟨_, rfl⟩ | ⟨h2, h3, _⟩ := hc2
      · exact ⟨_, _, _, st', rfl, rfl, hm10, hst', hl10, hk10⟩
      · exact absurd h3 h14_4
    intro h14_4
    refine SPL_y (y_pick_f rfl rfl) rfl ?_
    refine SPL_nil ?_
    refine thenP_n ?_
    refine SP_cond_f rfl ?_
    refine SP_skip ?_
    refine thenP_n ?_
    refine SP_region ?_
    refine SPL_y (y_move rfl) rfl ?_
    refine SPL_y (y_add rfl rfl (by omega)) rfl ?_
    refine SPL_y (y_assign rfl) rfl ?_
    refine SPL_nil ?_
    refine inBlockP_n ?_
    refine thenP_n ?_
    obtain ⟨h2, _⟩ | ⟨h2, h3, h4⟩ := hc2
    · rcases h2 with h2 | h2
      · exact absurd h2 h14_1
      · exact absurd h2 h14_4
    obtain rfl : st' = Q.st := hst' h2
    exact Again.intro ((k, en + 1, Q, ql, s10, sl10, sk10)) (⟨by dsimp only; omega, hm10, hl10, hk10, h4⟩) (by simp only []; omega) (by repeat (first | exact Sub.nil _ | refine Sub.cons rfl ?_)) (by repeat (first | exact Part.nil _ | (apply Part.cons; (first | exact P0 | exact P1 | exact P2 | exact P3 | exact P4 | exact P5 | exact P6 | exact P7 | exact P8 | exact P9 | exact P10 | exact P11 | exact P12 | exact P13 | exact P14 | exact P15 | exact P16 | exact P17 | exact P18 | exact P19 | exact P20 | exact P21 | exact P22 | exact P23)) | (apply Part.flat; simp only [List.cons_append, List.nil_append]) | (apply Part.nilc)))
  intro h10_6
  refine SPL_y (y_pick_f rfl rfl) rfl ?_
  refine SPL_y (y_move rfl) rfl ?_
  refine SPL_gy rfl rfl ?_
  refine SPL_y (y_fa fld_87_0 rfl) rfl ?_
  refine SPL_gy rfl rfl ?_
  refine SPL_y (y_load Tryz.isAgg3 rfl (by repeat (first | exact Cell.head rfl | apply Cell.tail))) rfl ?_
  refine SPL_gy rfl rfl ?_
  refine SPL_ifn (y_eql rfl rfl) rfl ?_ ?_
  · intro h10_11
    refine SPL_y (y_pick_f rfl rfl) rfl ?_
    refine SPL_nil ?_
    refine thenP_n ?_
    refine SP_cond_f rfl ?_
    rcases hcase with ⟨h1, _⟩ | ⟨h1, _⟩ | ⟨h1, _⟩ | ⟨hno, ⟨qb, qe, Q, ql⟩, hqb, hc2⟩
    · omega
    · omega
    · omega
    dsimp only at hc2
    have hwc := hwl c (hci ▸ List.getElem_mem hi9)
    have hbk := rm_stepM x pb kb rv E R9 s9 hm9 la lc loc9 sl9 (by rw [hll]; exact hl9) sk9 hk9 depth c hS9 (by omega) sp _ hC hwc (by rcases well_ops hwc with o | o | o | o | o | o | o | o | o | o | o | o | o | o | o | o <;> omega) hd k (fun R s sk f depth r a1 a2 a3 a4 a5 a6 => rm_invoke x pb kb rv E sp _ hC k (hQ k (by omega)) R s sk f depth r a1 a2 a3 a4 a5 a6) (qb, qe, Q, ql) hqb
    rw [hll] at hbk
    refine SP_region ?_
    refine SPL_y (y_move rfl) rfl ?_
    refine SPL_y (y_loads Tryz.isAgg87 Tryz.sizeOf87 rfl rfl (by repeat (first | exact Cells.all _ | exact Cells.head rfl | apply Cells.tail))) rfl ?_
    refine SPL_y (y_move rfl) rfl ?_
    refine SPL_y (y_move rfl) rfl ?_
    refine SPL_one rfl (SP1_call (hbk) Tryz.call150 rfl rfl (by repeat (first | exact Part.nil _ | (apply Part.cons; (first | exact P0 | exact P1 | exact P2 | exact P3 | exact P4 | exact P5 | exact P6 | exact P7 | exact P8 | exact P9 | exact P10 | exact P11 | exact P12 | exact P13 | exact P14 | exact P15 | exact P16 | exact P17 | exact P18 | exact P19 | exact P20 | exact P21 | exact P22 | exact P23)) | (apply Part.flat; simp only [List.cons_append, List.nil_append]) | (apply Part.nilc))) ?_)
    rintro v post H' ⟨s10, sl10, sk10, st', rfl, rfl, hm10, hst', hl10, hk10⟩ hH
    try simp only [List.cons_append, List.nil_append] at hH
    subst hH
    dsimp only at hm10 hst' hl10 hk10 ⊢
    refine SPL_y (y_move rfl) rfl ?_
    refine SPL_y (y_ext rfl rfl) rfl ?_
    refine SPL_y (y_ext rfl rfl) rfl ?_
    refine SPL_y (y_assign rfl) rfl ?_
    refine SPL_y (y_assign rfl) rfl ?_
    refine SPL_nil ?_
    refine thenP_n ?_
    refine SP_seq ?_
    refine SP_seq ?_
    refine SP_region ?_
    refine SPL_y (y_move rfl) rfl ?_
    refine SPL_if (y_neq rfl rfl) rfl ?_ ?_
    · intro h14_1
      refine SPL_y (y_move rfl) rfl ?_
      refine SPL_gn rfl rfl rfl rfl ?_
      refine SPL_gn rfl rfl rfl rfl ?_
      refine SPL_y (y_pick_t rfl rfl) rfl ?_
      refine SPL_nil ?_
      refine thenP_n ?_
      refine SP_cond_t rfl ?_
      refine SP_seq ?_
      refine SP_region ?_
      refine SPL_y (y_move rfl) rfl ?_
      refine SPL_y (y_move rfl) rfl ?_
      refine SPL_y (y_assign rfl) rfl ?_
      refine SPL_y (y_assign rfl) rfl ?_
      refine SPL_nil ?_
      refine thenP_n ?_
      refine SP_ret ?_
      refine thenP_ret (inBlockP_ret (thenP_ret (inBlockP_ret (bodyP_ret (H' := [s10, sl10, sk10, sp, List.flatten [s6, blk bs 87 (codeV src ++ sps), s7]]) (Res2 rfl rfl rfl) (by repeat (first | exact Part.nil _ | (apply Part.cons; (first | exact P0 | exact P1 | exact P2 | exact P3 | exact P4 | exact P5 | exact P6 | exact P7 | exact P8 | exact P9 | exact P10 | exact P11 | exact P12 | exact P13 | exact P14 | exact P15 | exact P16 | exact P17 | exact P18 | exact P19 | exact P20 | exact P21 | exact P22 | exact P23)) | (apply Part.flat; simp only [List.cons_append, List.nil_append]) | (apply Part.nilc))) ?_))))
      obtain ⟨_, rfl⟩ | ⟨h2, h3, _⟩ := hc2
      · exact ⟨_, _, _, st', rfl, rfl, hm10, hst', hl10, hk10⟩
      · exact absurd h2 h14_1
    intro h14_1
    refine SPL_y (y_move rfl) rfl ?_
    refine SPL_gy rfl rfl ?_
    refine SPL_y (y_move rfl) rfl ?_
    refine SPL_gy rfl rfl ?_
    refine SPL_if (y_neq rfl rfl) rfl ?_ ?_
    · intro h14_4
      refine SPL_y (y_pick_f rfl rfl) rfl ?_
      refine SPL_nil ?_
      refine thenP_n ?_
      refine SP_cond_t rfl ?_
      refine SP_seq ?_
      refine SP_region ?_
      refine SPL_y (y_move rfl) rfl ?_
      refine SPL_y (y_move rfl) rfl ?_
      refine SPL_y (y_assign rfl) rfl ?_
      refine SPL_y (y_assign rfl) rfl ?_
      refine SPL_nil ?_
      refine thenP_n ?_
      refine SP_ret ?_
      refine thenP_ret (inBlockP_ret (thenP_ret (inBlockP_ret (bodyP_ret (H' := [s10, sl10, sk10, sp, List.flatten [s6, blk bs 87 (codeV src ++ sps), s7]]) (Res2 rfl rfl rfl) (by repeat (first | exact Part.nil _ | (apply Part.cons; (first | exact P0 | exact P1 | exact P2 | exact P3 | exact P4 | exact P5 | exact P6 | exact P7 | exact P8 | exact P9 | exact P10 | exact P11 | exact P12 | exact P13 | exact P14 | exact P15 | exact P16 | exact P17 | exact P18 | exact P19 | exact P20 | exact P21 | exact P22 | exact P23)) | (apply Part.flat; simp only [List.cons_append, List.nil_append]) | (apply Part.nilc))) ?_))))
      obtain ⟨_, rfl⟩ | ⟨h2, h3, _⟩ := hc2
      · exact ⟨_, _, _, st', rfl, rfl, hm10, hst', hl10, hk10⟩
      · exact absurd h3 h14_4
    intro h14_4
    refine SPL_y (y_pick_f rfl rfl) rfl ?_
    refine SPL_nil ?_
    refine thenP_n ?_
    refine SP_cond_f rfl ?_
    refine SP_skip ?_
    refine thenP_n ?_
    refine SP_region ?_
    refine SPL_y (y_move rfl) rfl ?_
    refine SPL_y (y_add rfl rfl (by omega)) rfl ?_
    refine SPL_y (y_assign rfl) rfl ?_
    refine SPL_nil ?_
    refine inBlockP_n ?_
    refine thenP_n ?_
    obtain ⟨h2, _⟩ | ⟨h2, h3, h4⟩ := hc2
    · rcases h2 with h2 | h2
      · exact absurd h2 h14_1
      · exact absurd h2 h14_4
    obtain rfl : st' = Q.st := hst' h2
    exact Again.intro ((k, i9 + 1, Q, ql, s10, sl10, sk10)) (⟨by dsimp only; omega, hm10, hl10, hk10, h4⟩) (by simp only []; omega) (by repeat (first | exact Sub.nil _ | refine Sub.cons rfl ?_)) (by repeat (first | exact Part.nil _ | (apply Part.cons; (first | exact P0 | exact P1 | exact P2 | exact P3 | exact P4 | exact P5 | exact P6 | exact P7 | exact P8 | exact P9 | exact P10 | exact P11 | exact P12 | exact P13 | exact P14 | exact P15 | exact P16 | exact P17 | exact P18 | exact P19 | exact P20 | exact P21 | exact P22 | exact P23)) | (apply Part.flat; simp only [List.cons_append, List.nil_append]) | (apply Part.nilc)))
  intro h10_11
  refine SPL_y (y_pick_f rfl rfl) rfl ?_
  refine SPL_nil ?_
  refine thenP_n ?_
  refine SP_cond_t rfl ?_
  refine SP_seq ?_
  rcases hcase with ⟨h1, _⟩ | ⟨h1, _⟩ | ⟨hb3, ⟨qb, qe, Q, ql⟩, hqb, hc2⟩ | ⟨h1, _⟩
  · omega
  · omega
  rotate_left
  · omega
  dsimp only at hc2
  have hbk := rm_block x pb kb rv E sp _ hC k (fun m hm => hQ m (by omega)) R9 s9 hm9 la lc loc9 sl9 (by rw [hll]; exact hl9) (by omega) sk9 hk9 src hsm (some ⟨bs, 0, none⟩) sc hAt0 i9 hi9 c hci depth hd hS9 (qb, qe, Q, ql) hb3 hqb
  rw [hll] at hbk
  refine SP_region ?_
  refine SPL_y (y_move rfl) rfl ?_
  refine SPL_y (y_move rfl) rfl ?_
  refine SPL_y (y_move rfl) rfl ?_
  refine SPL_y (y_move rfl) rfl ?_
  refine SPL_y (y_move rfl) rfl ?_
  refine SPL_one rfl (SP1_call (hbk) Tryz.call149 rfl rfl (by repeat (first | exact Part.nil _ | (apply Part.cons; (first | exact P0 | exact P1 | exact P2 | exact P3 | exact P4 | exact P5 | exact P6 | exact P7 | exact P8 | exact P9 | exact P10 | exact P11 | exact P12 | exact P13 | exact P14 | exact P15 | exact P16 | exact P17 | exact P18 | exact P19 | exact P20 | exact P21 | exact P22 | exact P23)) | (apply Part.flat; simp only [List.cons_append, List.nil_append]) | (apply Part.nilc))) ?_)
  rintro v post H' ⟨s10, sl10, sk10, st', rfl, rfl, hm10, hst', hl10, hk10⟩ hH
  try simp only [List.cons_append, List.nil_append] at hH
  subst hH
  dsimp only at hm10 hst' hl10 hk10 ⊢
  refine SPL_y (y_move rfl) rfl ?_
  refine SPL_y (y_ext rfl rfl) rfl ?_
  refine SPL_y (y_ext rfl rfl) rfl ?_
  refine SPL_y (y_assign rfl) rfl ?_
  refine SPL_y (y_assign rfl) rfl ?_
  refine SPL_nil ?_
  refine thenP_n ?_
  obtain ⟨en, hen, henl⟩ := ends_i hi9
  refine SP_openAt [s6, blk bs 87 (codeV src ++ sps), s7] (by first | exact P0 | exact P1 | exact P2 | exact P3 | exact P4 | exact P5 | exact P6 | exact P7 | exact P8 | exact P9 | exact P10 | exact P11 | exact P12 | exact P13 | exact P14 | exact P15 | exact P16 | exact P17 | exact P18 | exact P19 | exact P20 | exact P21 | exact P22 | exact P23) ?_
  simp only [List.cons_append, List.nil_append]
  refine SP_region ?_
  refine SPL_y (y_move rfl) rfl ?_
  refine SPL_y (y_move rfl) rfl ?_
  refine SPL_one rfl (SP1_call (pm_Ends (some ⟨bs, 0, none⟩) sc src _ hs i9 hi9 (by omega)) Tryz.call93 rfl rfl (by repeat (first | exact Part.nil _ | (apply Part.cons; (first | exact P0 | exact P1 | exact P2 | exact P3 | exact P4 | exact P5 | exact P6 | exact P7 | exact P8 | exact P9 | exact P10 | exact P11 | exact P12 | exact P13 | exact P14 | exact P15 | exact P16 | exact P17 | exact P18 | exact P19 | exact P20 | exact P21 | exact P22 | exact P23)) | (apply Part.flat; simp only [List.cons_append, List.nil_append]) | (apply Part.nilc))) ?_)
  rintro v post H' ⟨rfl, rfl⟩ hH
  try simp only [List.cons_append, List.nil_append] at hH
  subst hH
  rw [hen]
  rw [hen, show ((en : Int) + 1).toNat = en + 1 by omega] at hc2
  refine SPL_y (y_move rfl) rfl ?_
  refine SPL_y (y_ext rfl rfl) rfl ?_
  refine SPL_y (y_ext rfl rfl) rfl ?_
  refine SPL_y (y_assign rfl) rfl ?_
  refine SPL_nil ?_
  refine thenP_n ?_
  refine SP_seq ?_
  refine SP_seq ?_
  refine SP_region ?_
  refine SPL_y (y_move rfl) rfl ?_
  refine SPL_if (y_neq rfl rfl) rfl ?_ ?_
  · intro h14_1
    refine SPL_y (y_move rfl) rfl ?_
    refine SPL_gn rfl rfl rfl rfl ?_
    refine SPL_gn rfl rfl rfl rfl ?_
    refine SPL_y (y_pick_t rfl rfl) rfl ?_
    refine SPL_nil ?_
    refine thenP_n ?_
    refine SP_cond_t rfl ?_
    refine SP_seq ?_
    refine SP_region ?_
    refine SPL_y (y_move rfl) rfl ?_
    refine SPL_y (y_move rfl) rfl ?_
    refine SPL_y (y_assign rfl) rfl ?_
    refine SPL_y (y_assign rfl) rfl ?_
    refine SPL_nil ?_
    refine thenP_n ?_
    refine SP_ret ?_
    refine thenP_ret (inBlockP_ret (thenP_ret (inBlockP_ret (bodyP_ret (H' := [s10, sl10, sk10, sp, List.flatten [s6, blk bs 87 (codeV src ++ sps), s7]]) (Res2 rfl rfl rfl) (by repeat (first | exact Part.nil _ | (apply Part.cons; (first | exact P0 | exact P1 | exact P2 | exact P3 | exact P4 | exact P5 | exact P6 | exact P7 | exact P8 | exact P9 | exact P10 | exact P11 | exact P12 | exact P13 | exact P14 | exact P15 | exact P16 | exact P17 | exact P18 | exact P19 | exact P20 | exact P21 | exact P22 | exact P23)) | (apply Part.flat; simp only [List.cons_append, List.nil_append]) | (apply Part.nilc))) ?_))))
    obtain ⟨_, rfl⟩ | ⟨h2, h3, _⟩ := hc2
    · exact ⟨_, _, _, st', rfl, rfl, hm10, hst', hl10, hk10⟩
    · exact absurd h2 h14_1
  intro h14_1
  refine SPL_y (y_move rfl) rfl ?_
  refine SPL_gy rfl rfl ?_
  refine SPL_y (y_move rfl) rfl ?_
  refine SPL_gy rfl rfl ?_
  refine SPL_if (y_neq rfl rfl) rfl ?_ ?_
  · intro h14_4
    refine SPL_y (y_pick_f rfl rfl) rfl ?_
    refine SPL_nil ?_
    refine thenP_n ?_
    refine SP_cond_t rfl ?_
    refine SP_seq ?_
    refine SP_region ?_
    refine SPL_y (y_move rfl) rfl ?_
    refine SPL_y (y_move rfl) rfl ?_
    refine SPL_y (y_assign rfl) rfl ?_
    refine SPL_y (y_assign rfl) rfl ?_
    refine SPL_nil ?_
    refine thenP_n ?_
    refine SP_ret ?_
    refine thenP_ret (inBlockP_ret (thenP_ret (inBlockP_ret (bodyP_ret (H' := [s10, sl10, sk10, sp, List.flatten [s6, blk bs 87 (codeV src ++ sps), s7]]) (Res2 rfl rfl rfl) (by repeat (first | exact Part.nil _ | (apply Part.cons; (first | exact P0 | exact P1 | exact P2 | exact P3 | exact P4 | exact P5 | exact P6 | exact P7 | exact P8 | exact P9 | exact P10 | exact P11 | exact P12 | exact P13 | exact P14 | exact P15 | exact P16 | exact P17 | exact P18 | exact P19 | exact P20 | exact P21 | exact P22 | exact P23)) | (apply Part.flat; simp only [List.cons_append, List.nil_append]) | (apply Part.nilc))) ?_))))
    obtain ⟨_, rfl⟩ | ⟨h2, h3, _⟩ := hc2
    · exact ⟨_, _, _, st', rfl, rfl, hm10, hst', hl10, hk10⟩
    · exact absurd h3 h14_4
  intro h14_4
  refine SPL_y (y_pick_f rfl rfl) rfl ?_
  refine SPL_nil ?_
  refine thenP_n ?_
  refine SP_cond_f rfl ?_
  refine SP_skip ?_
  refine thenP_n ?_
  refine SP_region ?_
  refine SPL_y (y_move rfl) rfl ?_
  refine SPL_y (y_add rfl rfl (by omega)) rfl ?_
  refine SPL_y (y_assign rfl) rfl ?_
  refine SPL_nil ?_
  refine inBlockP_n ?_
  refine thenP_n ?_
  obtain ⟨h2, _⟩ | ⟨h2, h3, h4⟩ := hc2
  · rcases h2 with h2 | h2
    · exact absurd h2 h14_1
    · exact absurd h2 h14_4
  obtain rfl : st' = Q.st := hst' h2
  exact Again.intro ((k, en + 1, Q, ql, s10, sl10, sk10)) (⟨by dsimp only; omega, hm10, hl10, hk10, h4⟩) (by simp only []; omega) (by repeat (first | exact Sub.nil _ | refine Sub.cons rfl ?_)) (by repeat (first | exact Part.nil _ | (apply Part.cons; (first | exact P0 | exact P1 | exact P2 | exact P3 | exact P4 | exact P5 | exact P6 | exact P7 | exact P8 | exact P9 | exact P10 | exact P11 | exact P12 | exact P13 | exact P14 | exact P15 | exact P16 | exact P17 | exact P18 | exact P19 | exact P20 | exact P21 | exact P22 | exact P23)) | (apply Part.flat; simp only [List.cons_append, List.nil_append]) | (apply Part.nilc)))

theorem seq_all {x pb kb : Nat} {rv : Value} {E : RE} {sp sx : Seg} (hC : RC E pb rv sp sx) (n : Nat) : SeqOk E x pb kb rv sp sx n := by
  induction n using Nat.strongRecOn with
  | ind n ih => exact fun R s la lc loc sl sk src sa sc i op depth h keep r a1 a2 a3 a4 a5 a6 a7 a8 => rm_seq x pb kb rv E sp sx hC n ih R s la lc loc sl sk src sa sc i op depth h keep r a1 a2 a3 a4 a5 a6 a7 a8
theorem inv_all {x pb kb : Nat} {rv : Value} {E : RE} {sp sx : Seg} (hC : RC E pb rv sp sx) (n : Nat) : InvOk E x pb kb rv sp sx n :=
  fun R s sk f depth r a1 a2 a3 a4 a5 a6 => rm_invoke x pb kb rv E sp sx hC n (seq_all hC n) R s sk f depth r a1 a2 a3 a4 a5 a6

end Go.Sl
