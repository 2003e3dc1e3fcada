/- Walks: package runm, blocks (made by program out of short notes) -/
import Derived.Test.Qxb6500572aGreatDoorWRmH
namespace Go.Sl
open Go Go.Wl Go.Proofs
set_option maxRecDepth 100000
set_option linter.unusedVariables false
set_option linter.unusedSimpArgs false
theorem ends_i {src : List Ins} {i : Nat} (hi : i < src.length) : ∃ e : Nat, (ends src i).2 = e ∧ e < src.length := by
  have := ends_rng hi
  exact ⟨(ends src i).2.toNat, by omega, by omega⟩
theorem small_of {E : RE} {rec : Tsk → RS → List W → Option RR} {t : Tsk} {R : RS} {loc : List W} {r : RR} (h : taskM E rec t R loc = some r) : Small R := by
  unfold taskM at h
  split at h
  · cases h
  · rename_i hs
    exact (small_iff R).1 (by cases hb : R.small with | true => rfl | false => exact absurd (by rw [hb]; simp) hs)
theorem task_loop {E : RE} {n : Nat} {src : List Ins} {i : Nat} {op depth : Int} {h keep : Nat} {R : RS} {loc : List W} {r : RR} (hr : runM E (n + 1) ⟨src, i, true, op, h, keep, depth⟩ R loc = some r) : Small R ∧ ∃ q, runM E n ⟨src, i, false, op, h, keep, depth⟩ R loc = some q ∧
    ((q.2.1 ≠ 0 ∨ q.1 < 0) ∧ r = q ∨ ¬ (q.2.1 ≠ 0 ∨ q.1 < 0) ∧ 0 < q.1 ∧ q.1 ≤ 4294967295 ∧ r = (q.1 - 1, q.2) ∨
     q.2.1 = 0 ∧ q.1 = 0 ∧ h + keep ≤ q.2.2.1.st.length ∧ q.2.2.1.st.length ≤ 1000000 ∧
      (op = 2 ∧ runM E n ⟨src, i, true, op, h, keep, depth⟩ { q.2.2.1 with st := q.2.2.1.st.take h ++ topW q.2.2.1.st keep } q.2.2.2 = some r ∨ op ≠ 2 ∧ r = (-1, 0, { q.2.2.1 with st := q.2.2.1.st.take h ++ topW q.2.2.1.st keep }, q.2.2.2))) := by
  have hr : taskM E (runM E n) ⟨src, i, true, op, h, keep, depth⟩ R loc = some r := hr
  refine ⟨small_of hr, ?_⟩
  unfold taskM at hr
  split at hr
  · cases hr
  rw [if_pos rfl] at hr
  obtain ⟨q, hq, hrest⟩ := Option.bind_eq_some_iff.1 hr
  refine ⟨q, hq, ?_⟩
  split at hrest
  · rename_i h1; simp only [Option.some.injEq] at hrest; exact .inl ⟨h1, hrest.symm⟩
  rename_i h1
  split at hrest
  · rename_i h2
    split at hrest
    · rename_i h3; simp only [Option.some.injEq] at hrest; exact .inr (.inl ⟨h1, h2, h3, hrest.symm⟩)
    · cases hrest
  rename_i h2
  split at hrest
  · cases hrest
  rename_i h3
  have h0 : q.2.1 = 0 := Decidable.byContradiction fun e => h1 (.inl e)
  have h4 : q.1 = 0 := by
    have : ¬ q.1 < 0 := fun e => h1 (.inr e)
    omega
  refine .inr (.inr ⟨h0, h4, by dsimp only at h3; omega, by omega, ?_⟩)
  split at hrest
  · rename_i h5; exact .inl ⟨h5, hrest⟩
  · rename_i h5; simp only [Option.some.injEq] at hrest; exact .inr ⟨h5, hrest.symm⟩

set_option maxHeartbeats 4000000 in
theorem rm_block1 (x pb kb : Nat) (rv : Value) (E : RE) (sp sx : Seg) (hC : RC E pb rv sp sx) (n : Nat) (hQ : ∀ m, m ≤ n → SeqOk E x pb kb rv sp sx m) (R : RS) (s : Seg) (hm : isR x (.pointer (some ⟨pb, 0, none⟩)) rv (.pointer (some ⟨kb, 0, none⟩)) E R s) (la : Option Addr) (lc : Nat) (loc : List W) (sl : Seg) (hl : Arr 110 2 la loc.length lc (loc.flatMap wv) sl) (hlo : loc.length ≤ 100) (sk : Seg) (hk : isMm kb R.mem sk) (src : List Ins) (hsm : src ∈ E.src) (sa : Option Addr) (sc : Nat) (hAt : SrcAt sx src sa sc) (i : Nat) (hi : i < src.length) (c : Ins) (hci : src[i] = c) (depth : Int) (hd : 0 ≤ depth ∧ depth ≤ 100) (hS : Small R) (r : RR) (hop : c.op = 1) (hb : runM E n ⟨src, i + 1, true, c.op, R.st.length, if c.imm ≠ 0 ∧ c.op ≠ 2 then 1 else 0, depth⟩ R loc = some r) : Spec Tryz.prog 149 [pvp x, .slice sa src.length sc, I i, .slice la loc.length lc, I depth] [s, sl, sk, sp, sx] (Ret (RPost x pb kb rv E sp sx la loc.length lc r)) := by
  obtain ⟨hsl, hwl⟩ := hC.wl src hsm
  have hz := hS.st
  have hAt0 := hAt
  obtain ⟨s6, sv, s7, rfl, hs⟩ := hAt
  obtain ⟨bs, sps, rfl, hsc, hsps, rfl⟩ := hs.row (by omega)
  refine Spec_openAt [s6, blk bs 87 (codeV src ++ sps), s7] (by first | exact P0 | exact P1 | exact P2 | exact P3 | exact P4 | exact P5 | exact P6 | exact P7 | exact P8 | exact P9 | exact P10 | exact P11 | exact P12 | exact P13 | exact P14 | exact P15 | exact P16 | exact P17 | exact P18 | exact P19 | exact P20 | exact P21 | exact P22 | exact P23) ?_
  simp only [List.cons_append, List.nil_append]
  refine Spec_enter Tryz.func149 rfl Tryz.ntmps149 rfl ?_
  show SP _ _ _ _ _ [(0, _), (1, _), (2, _), (3, _), (4, _)] _
  refine SP_seq ?_
  refine SP_region ?_
  refine SPL_y (y_assign rfl) rfl ?_
  refine SPL_y (y_assign rfl) rfl ?_
  refine SPL_nil ?_
  refine thenP_n ?_
  refine SP_seq ?_
  refine SP_region ?_
  refine SPL_y (y_move rfl) rfl ?_
  refine SPL_y (y_move rfl) rfl ?_
  refine SPL_y (y_ia Tryz.underlying34 Tryz.sizeOf87 rfl rfl (by omega)) rfl ?_
  refine SPL_y (y_loads Tryz.isAgg87 Tryz.sizeOf87 rfl rfl (by repeat (first | exact flat_cellsE insV_len (i := i) rfl hi hci | apply Cells.tail))) rfl ?_
  refine SPL_y (y_move rfl) rfl ?_
  refine SPL_y (y_add rfl rfl (by omega)) rfl ?_
  refine SPL_one rfl (SP1_alloc Tryz.zeroValue87 rfl rfl ?_)
  intro b12
  refine SPL_one rfl (SP1_storeAll Tryz.sizeOf87 rfl rfl rfl rfl rfl (by first | exact U0 | exact U1 | exact U2 | exact U3 | exact U4 | exact U5 | exact U6 | exact U7 | exact U8 | exact U9 | exact U10 | exact U11 | exact U12 | exact U13 | exact U14 | exact U15 | exact U16 | exact U17 | exact U18 | exact U19 | exact U20 | exact U21 | exact U22 | exact U23) (by rfl) ?_)
  refine SPL_y (y_assign rfl) rfl ?_
  refine SPL_nil ?_
  refine thenP_n ?_
  refine SP_seq ?_
  refine SP_seq ?_
  refine SP_region ?_
  refine SPL_y (y_fa fld_87_0 rfl) rfl ?_
  refine SPL_y (y_load Tryz.isAgg3 rfl (by repeat (first | exact Cell.head rfl | apply Cell.tail))) rfl ?_
  refine SPL_y (y_eqlF rfl rfl (by omega)) rfl ?_
  refine SPL_nil ?_
  refine thenP_n ?_
  refine SP_cond_f rfl ?_
  refine SP_skip ?_
  refine thenP_n ?_
  refine SP_seq ?_
  obtain ⟨sa1, sc1, ss1, rfl, hst1⟩ := hm
  refine SP_openAt [blk x 119 (instR (.pointer (some ⟨pb, 0, none⟩)) rv (.pointer (some ⟨kb, 0, none⟩)) (.slice sa1 R.st.length sc1) E R), ss1] (by first | exact P0 | exact P1 | exact P2 | exact P3 | exact P4 | exact P5 | exact P6 | exact P7 | exact P8 | exact P9 | exact P10 | exact P11 | exact P12 | exact P13 | exact P14 | exact P15 | exact P16 | exact P17 | exact P18 | exact P19 | exact P20 | exact P21 | exact P22 | exact P23) ?_
  simp only [List.cons_append, List.nil_append, instR]
  refine SP_region ?_
  refine SPL_y (y_move rfl) rfl ?_
  refine SPL_y (y_nil rfl) rfl ?_
  refine SPL_y (y_fa fld_119_3 rfl) rfl ?_
  refine SPL_y (y_load Tryz.isAgg35 rfl (by repeat (first | exact Cell.head rfl | apply Cell.tail))) rfl ?_
  refine SPL_y (y_len_l Tryz.underlying35 rfl) rfl ?_
  refine SPL_y (y_assign rfl) rfl ?_
  refine SPL_y (y_assign rfl) rfl ?_
  refine SPL_nil ?_
  refine thenP_n ?_
  refine SP_seq ?_
  refine SP_seq ?_
  refine SP_region ?_
  refine SPL_y (y_fa fld_87_1 rfl) rfl ?_
  refine SPL_y (y_load Tryz.isAgg3 rfl (by repeat (first | exact Cell.head rfl | apply Cell.tail))) rfl ?_
  refine SPL_ifn (y_neq rfl rfl) rfl ?_ ?_
  · intro h15_2
    refine SPL_y (y_move rfl) rfl ?_
    refine SPL_gn rfl rfl rfl rfl ?_
    refine SPL_gn rfl rfl rfl rfl ?_
    refine SPL_gn rfl rfl rfl rfl ?_
    refine SPL_y (y_pick_f rfl rfl) rfl ?_
    refine SPL_nil ?_
    refine thenP_n ?_
    refine SP_cond_f rfl ?_
    refine SP_skip ?_
    refine thenP_n ?_
    refine SP_block ?_
    refine SP_loop (G := Nat × RS × List W × Seg × Seg × Seg) (fun z => z.1) (fun z => [(0, pvp x), (1, .slice (some ⟨bs, 0, none⟩) src.length sc), (3, .slice la loc.length lc), (4, I depth), (12, pvp b12), (13, I (i + 1 : Nat)), (19, I (R.st.length : Nat)), (20, I (0 : Nat))]) (fun z => [z.2.2.2.1, z.2.2.2.2.1, z.2.2.2.2.2, sp, List.flatten [s6, blk bs 87 (codeV src ++ sps), s7], blk b12 87 (insV c)]) (fun z => z.1 ≤ n ∧ isR x (.pointer (some ⟨pb, 0, none⟩)) rv (.pointer (some ⟨kb, 0, none⟩)) E z.2.1 z.2.2.2.1 ∧ Arr 110 2 la loc.length lc (z.2.2.1.flatMap wv) z.2.2.2.2.1 ∧ isMm kb z.2.1.mem z.2.2.2.2.2 ∧ runM E z.1 ⟨src, i + 1, true, c.op, R.st.length, 0, depth⟩ z.2.1 z.2.2.1 = some r) ((n, R, loc, List.flatten [blk x 119 (instR (.pointer (some ⟨pb, 0, none⟩)) rv (.pointer (some ⟨kb, 0, none⟩)) (.slice sa1 R.st.length sc1) E R), ss1], sl, sk)) (⟨Nat.le_refl _, (⟨sa1, sc1, ss1, rfl, hst1⟩ : isR x (.pointer (some ⟨pb, 0, none⟩)) rv (.pointer (some ⟨kb, 0, none⟩)) E R (List.flatten [blk x 119 (instR (.pointer (some ⟨pb, 0, none⟩)) rv (.pointer (some ⟨kb, 0, none⟩)) (.slice sa1 R.st.length sc1) E R), ss1])), hl, hk, by dsimp only; rw [← hb]; rw [if_neg (fun h => h15_2 h.1)]⟩) (by repeat (first | exact Sub.nil _ | refine Sub.cons rfl ?_)) (by repeat (first | exact Part.nil _ | (apply Part.cons; (first | exact P0 | exact P1 | exact P2 | exact P3 | exact P4 | exact P5 | exact P6 | exact P7 | exact P8 | exact P9 | exact P10 | exact P11 | exact P12 | exact P13 | exact P14 | exact P15 | exact P16 | exact P17 | exact P18 | exact P19 | exact P20 | exact P21 | exact P22 | exact P23)) | (apply Part.flat; simp only [List.cons_append, List.nil_append]) | (apply Part.nilc))) ?_
    rintro ⟨k, R9, loc9, s9, sl9, sk9⟩ ⟨hkn, hm9, hl9, hk9, hr9⟩
    dsimp only at hkn hm9 hl9 hk9 hr9 ⊢
    have hll := flat_inj hl9
    obtain ⟨k, rfl⟩ : ∃ k', k = k' + 1 := by
      cases k with
      | zero => cases hr9
      | succ k' => exact ⟨k', rfl⟩
    obtain ⟨hS9, ⟨qb, qe, Q, ql⟩, hq, hcase⟩ := task_loop hr9
    dsimp only at hcase
    have hseq := hQ k (by omega) R9 s9 la lc loc9 sl9 sk9 src (some ⟨bs, 0, none⟩) sc (i + 1) (c.op) depth (R.st.length) (0) (qb, qe, Q, ql) hm9 (by rw [hll]; exact hl9) (by omega) hk9 hsm hAt0 hd hq
    rw [hll] at hseq
    refine SP_block ?_
    refine SP_seq ?_
    refine SP_region ?_
    refine SPL_y (y_move rfl) rfl ?_
    refine SPL_y (y_move rfl) rfl ?_
    refine SPL_y (y_move rfl) rfl ?_
    refine SPL_y (y_move rfl) rfl ?_
    refine SPL_y (y_move rfl) rfl ?_
    refine SPL_one rfl (SP1_call (hseq) Tryz.call140 rfl rfl (by repeat (first | exact Part.nil _ | (apply Part.cons; (first | exact P0 | exact P1 | exact P2 | exact P3 | exact P4 | exact P5 | exact P6 | exact P7 | exact P8 | exact P9 | exact P10 | exact P11 | exact P12 | exact P13 | exact P14 | exact P15 | exact P16 | exact P17 | exact P18 | exact P19 | exact P20 | exact P21 | exact P22 | exact P23)) | (apply Part.flat; simp only [List.cons_append, List.nil_append]) | (apply Part.nilc))) ?_)
    rintro v post H' ⟨s10, sl10, sk10, st', rfl, rfl, hm10, hst', hl10, hk10⟩ hH
    try simp only [List.cons_append, List.nil_append] at hH
    subst hH
    dsimp only at hm10 hst' hl10 hk10 ⊢
    refine SPL_y (y_move rfl) rfl ?_
    refine SPL_y (y_ext rfl rfl) rfl ?_
    refine SPL_y (y_ext rfl rfl) rfl ?_
    refine SPL_y (y_assign rfl) rfl ?_
    refine SPL_y (y_assign rfl) rfl ?_
    refine SPL_nil ?_
    refine thenP_n ?_
    refine SP_seq ?_
    refine SP_seq ?_
    refine SP_region ?_
    refine SPL_y (y_move rfl) rfl ?_
    refine SPL_if (y_neq rfl rfl) rfl ?_ ?_
    · intro h18_1
      refine SPL_y (y_move rfl) rfl ?_
      refine SPL_gn rfl rfl rfl rfl ?_
      refine SPL_gn rfl rfl rfl rfl ?_
      refine SPL_y (y_pick_t rfl rfl) rfl ?_
      refine SPL_nil ?_
      refine thenP_n ?_
      refine SP_cond_t rfl ?_
      refine SP_seq ?_
      refine SP_region ?_
      refine SPL_y (y_move rfl) rfl ?_
      refine SPL_y (y_move rfl) rfl ?_
      refine SPL_y (y_assign rfl) rfl ?_
      refine SPL_y (y_assign rfl) rfl ?_
      refine SPL_nil ?_
      refine thenP_n ?_
      refine SP_ret ?_
      refine thenP_ret (inBlockP_ret (thenP_ret (inBlockP_ret (bodyP_ret (H' := [s10, sl10, sk10, sp, List.flatten [s6, blk bs 87 (codeV src ++ sps), s7]]) (Res2 rfl rfl rfl) (by repeat (first | exact Part.nil _ | (apply Part.cons; (first | exact P0 | exact P1 | exact P2 | exact P3 | exact P4 | exact P5 | exact P6 | exact P7 | exact P8 | exact P9 | exact P10 | exact P11 | exact P12 | exact P13 | exact P14 | exact P15 | exact P16 | exact P17 | exact P18 | exact P19 | exact P20 | exact P21 | exact P22 | exact P23)) | (apply Part.flat; simp only [List.cons_append, List.nil_append]) | (apply Part.nilc))) ?_))))
      obtain ⟨_, rfl⟩ | ⟨h1, _⟩ | ⟨h1, h2, _⟩ := hcase
      · exact ⟨_, _, _, st', rfl, rfl, hm10, hst', hl10, hk10⟩
      · exact absurd (.inl h18_1) h1
      · exact absurd h1 h18_1
    intro h18_1
    refine SPL_y (y_move rfl) rfl ?_
    refine SPL_gy rfl rfl ?_
    refine SPL_y (y_move rfl) rfl ?_
    refine SPL_gy rfl rfl ?_
    refine SPL_if (y_lss rfl rfl) rfl ?_ ?_
    · intro h18_4
      refine SPL_y (y_pick_f rfl rfl) rfl ?_
      refine SPL_nil ?_
      refine thenP_n ?_
      refine SP_cond_t rfl ?_
      refine SP_seq ?_
      refine SP_region ?_
      refine SPL_y (y_move rfl) rfl ?_
      refine SPL_y (y_move rfl) rfl ?_
      refine SPL_y (y_assign rfl) rfl ?_
      refine SPL_y (y_assign rfl) rfl ?_
      refine SPL_nil ?_
      refine thenP_n ?_
      refine SP_ret ?_
      refine thenP_ret (inBlockP_ret (thenP_ret (inBlockP_ret (bodyP_ret (H' := [s10, sl10, sk10, sp, List.flatten [s6, blk bs 87 (codeV src ++ sps), s7]]) (Res2 rfl rfl rfl) (by repeat (first | exact Part.nil _ | (apply Part.cons; (first | exact P0 | exact P1 | exact P2 | exact P3 | exact P4 | exact P5 | exact P6 | exact P7 | exact P8 | exact P9 | exact P10 | exact P11 | exact P12 | exact P13 | exact P14 | exact P15 | exact P16 | exact P17 | exact P18 | exact P19 | exact P20 | exact P21 | exact P22 | exact P23)) | (apply Part.flat; simp only [List.cons_append, List.nil_append]) | (apply Part.nilc))) ?_))))
      obtain ⟨_, rfl⟩ | ⟨h1, _⟩ | ⟨h1, h2, _⟩ := hcase
      · exact ⟨_, _, _, st', rfl, rfl, hm10, hst', hl10, hk10⟩
      · exact absurd (.inr h18_4) h1
      · omega
    intro h18_4
    refine SPL_y (y_pick_f rfl rfl) rfl ?_
    refine SPL_nil ?_
    refine thenP_n ?_
    refine SP_cond_f rfl ?_
    refine SP_skip ?_
    refine thenP_n ?_
    refine SP_seq ?_
    refine SP_seq ?_
    refine SP_region ?_
    refine SPL_y (y_move rfl) rfl ?_
    refine SPL_if (y_gtr rfl rfl) rfl ?_ ?_
    · intro h20_1
      refine SPL_nil ?_
      refine thenP_n ?_
      refine SP_cond_t rfl ?_
      refine SP_seq ?_
      obtain ⟨h1, _⟩ | ⟨_, hb1, hb2, rfl⟩ | ⟨_, h1, _⟩ := hcase
      · rcases h1 with h1 | h1
        · exact absurd h1 h18_1
        · exact absurd h1 h18_4
      rotate_left
      · omega
      refine SP_region ?_
      refine SPL_y (y_move rfl) rfl ?_
      refine SPL_y (y_sub rfl rfl (by omega)) rfl ?_
      refine SPL_y (y_assign rfl) rfl ?_
      refine SPL_y (y_assign rfl) rfl ?_
      refine SPL_nil ?_
      refine thenP_n ?_
      refine SP_ret ?_
      refine thenP_ret (inBlockP_ret (thenP_ret (inBlockP_ret (bodyP_ret (H' := [s10, sl10, sk10, sp, List.flatten [s6, blk bs 87 (codeV src ++ sps), s7]]) (Res2 rfl rfl rfl) (by repeat (first | exact Part.nil _ | (apply Part.cons; (first | exact P0 | exact P1 | exact P2 | exact P3 | exact P4 | exact P5 | exact P6 | exact P7 | exact P8 | exact P9 | exact P10 | exact P11 | exact P12 | exact P13 | exact P14 | exact P15 | exact P16 | exact P17 | exact P18 | exact P19 | exact P20 | exact P21 | exact P22 | exact P23)) | (apply Part.flat; simp only [List.cons_append, List.nil_append]) | (apply Part.nilc))) ?_))))
      obtain rfl : qe = 0 := Decidable.not_not.1 h18_1
      exact ⟨_, _, _, st', rfl, rfl, hm10, hst', hl10, hk10⟩
    intro h20_1
    refine SPL_nil ?_
    refine thenP_n ?_
    refine SP_cond_f rfl ?_
    refine SP_skip ?_
    refine thenP_n ?_
    refine SP_seq ?_
    refine SP_seq ?_
    obtain ⟨h1, _⟩ | ⟨_, h1, _⟩ | ⟨hq0, hb0, hle, hbd, hcase4⟩ := hcase
    · rcases h1 with h1 | h1
      · exact absurd h1 h18_1
      · exact absurd h1 h18_4
    · exact absurd h1 h20_1
    obtain rfl : qe = 0 := hq0
    obtain rfl : st' = Q.st := hst' rfl
    have hm10 : isR x (.pointer (some ⟨pb, 0, none⟩)) rv (.pointer (some ⟨kb, 0, none⟩)) E Q s10 := hm10
    refine SP_region ?_
    refine SPL_y (y_move rfl) rfl ?_
    refine SPL_y (y_move rfl) rfl ?_
    refine SPL_y (y_move rfl) rfl ?_
    refine SPL_one rfl (SP1_call (rm_cutN x (.pointer (some ⟨pb, 0, none⟩)) rv (.pointer (some ⟨kb, 0, none⟩)) E Q s10 hm10 (R.st.length) (0) hle hbd) Tryz.call141 rfl rfl (by repeat (first | exact Part.nil _ | (apply Part.cons; (first | exact P0 | exact P1 | exact P2 | exact P3 | exact P4 | exact P5 | exact P6 | exact P7 | exact P8 | exact P9 | exact P10 | exact P11 | exact P12 | exact P13 | exact P14 | exact P15 | exact P16 | exact P17 | exact P18 | exact P19 | exact P20 | exact P21 | exact P22 | exact P23)) | (apply Part.flat; simp only [List.cons_append, List.nil_append]) | (apply Part.nilc))) ?_)
    rintro v post H' ⟨s11, rfl, rfl, hm11⟩ hH
    try simp only [List.cons_append, List.nil_append] at hH
    subst hH
    refine SPL_y (y_not_t rfl) rfl ?_
    refine SPL_nil ?_
    refine thenP_n ?_
    refine SP_cond_f rfl ?_
    refine SP_skip ?_
    refine thenP_n ?_
    refine SP_seq ?_
    refine SP_region ?_
    refine SPL_y (y_fa fld_87_0 rfl) rfl ?_
    refine SPL_y (y_load Tryz.isAgg3 rfl (by repeat (first | exact Cell.head rfl | apply Cell.tail))) rfl ?_
    refine SPL_ifn (y_neq rfl rfl) rfl ?_ ?_
    · intro h24_2
      refine SPL_nil ?_
      refine thenP_n ?_
      refine SP_cond_f rfl ?_
      refine SP_skip ?_
      refine inBlockP_n ?_
      refine thenP_n ?_
      obtain ⟨_, h2⟩ | ⟨h2, _⟩ := hcase4
      · exact Again.intro ((k, { Q with st := Q.st.take R.st.length ++ topW Q.st 0 }, ql, s11, sl10, sk10)) (⟨by dsimp only; omega, hm11, hl10, hk10, h2⟩) (by simp only []; omega) (by repeat (first | exact Sub.nil _ | refine Sub.cons rfl ?_)) (by repeat (first | exact Part.nil _ | (apply Part.cons; (first | exact P0 | exact P1 | exact P2 | exact P3 | exact P4 | exact P5 | exact P6 | exact P7 | exact P8 | exact P9 | exact P10 | exact P11 | exact P12 | exact P13 | exact P14 | exact P15 | exact P16 | exact P17 | exact P18 | exact P19 | exact P20 | exact P21 | exact P22 | exact P23)) | (apply Part.flat; simp only [List.cons_append, List.nil_append]) | (apply Part.nilc)))
      · exact absurd (Decidable.not_not.1 h24_2) h2
    intro h24_2
    refine SPL_nil ?_
    refine thenP_n ?_
    refine SP_cond_t rfl ?_
    refine SP_seq ?_
    refine SP_region ?_
    refine SPL_y (y_assign rfl) rfl ?_
    refine SPL_y (y_assign rfl) rfl ?_
    refine SPL_nil ?_
    refine thenP_n ?_
    refine SP_ret ?_
    refine inBlockP_ret (thenP_ret (inBlockP_ret (bodyP_ret (H' := [s11, sl10, sk10, sp, List.flatten [s6, blk bs 87 (codeV src ++ sps), s7]]) (Res2 rfl rfl rfl) (by repeat (first | exact Part.nil _ | (apply Part.cons; (first | exact P0 | exact P1 | exact P2 | exact P3 | exact P4 | exact P5 | exact P6 | exact P7 | exact P8 | exact P9 | exact P10 | exact P11 | exact P12 | exact P13 | exact P14 | exact P15 | exact P16 | exact P17 | exact P18 | exact P19 | exact P20 | exact P21 | exact P22 | exact P23)) | (apply Part.flat; simp only [List.cons_append, List.nil_append]) | (apply Part.nilc))) ?_)))
    obtain ⟨h1, _⟩ | ⟨_, rfl⟩ := hcase4
    · exact absurd h1 h24_2
    · exact ⟨_, _, _, _, rfl, rfl, hm11, fun _ => rfl, hl10, hk10⟩
  intro h15_2
  refine SPL_y (y_move rfl) rfl ?_
  refine SPL_gy rfl rfl ?_
  refine SPL_y (y_fa fld_87_0 rfl) rfl ?_
  refine SPL_gy rfl rfl ?_
  refine SPL_y (y_load Tryz.isAgg3 rfl (by repeat (first | exact Cell.head rfl | apply Cell.tail))) rfl ?_
  refine SPL_gy rfl rfl ?_
  refine SPL_y (y_neqYes rfl rfl (by omega)) rfl ?_
  refine SPL_y (y_pick_t rfl rfl) rfl ?_
  refine SPL_nil ?_
  refine thenP_n ?_
  refine SP_cond_t rfl ?_
  refine SP_region ?_
  refine SPL_y (y_assign rfl) rfl ?_
  refine SPL_nil ?_
  refine thenP_n ?_
  refine SP_block ?_
  refine SP_loop (G := Nat × RS × List W × Seg × Seg × Seg) (fun z => z.1) (fun z => [(0, pvp x), (1, .slice (some ⟨bs, 0, none⟩) src.length sc), (3, .slice la loc.length lc), (4, I depth), (12, pvp b12), (13, I (i + 1 : Nat)), (19, I (R.st.length : Nat)), (20, I (1 : Nat))]) (fun z => [z.2.2.2.1, z.2.2.2.2.1, z.2.2.2.2.2, sp, List.flatten [s6, blk bs 87 (codeV src ++ sps), s7], blk b12 87 (insV c)]) (fun z => z.1 ≤ n ∧ isR x (.pointer (some ⟨pb, 0, none⟩)) rv (.pointer (some ⟨kb, 0, none⟩)) E z.2.1 z.2.2.2.1 ∧ Arr 110 2 la loc.length lc (z.2.2.1.flatMap wv) z.2.2.2.2.1 ∧ isMm kb z.2.1.mem z.2.2.2.2.2 ∧ runM E z.1 ⟨src, i + 1, true, c.op, R.st.length, 1, depth⟩ z.2.1 z.2.2.1 = some r) ((n, R, loc, List.flatten [blk x 119 (instR (.pointer (some ⟨pb, 0, none⟩)) rv (.pointer (some ⟨kb, 0, none⟩)) (.slice sa1 R.st.length sc1) E R), ss1], sl, sk)) (⟨Nat.le_refl _, (⟨sa1, sc1, ss1, rfl, hst1⟩ : isR x (.pointer (some ⟨pb, 0, none⟩)) rv (.pointer (some ⟨kb, 0, none⟩)) E R (List.flatten [blk x 119 (instR (.pointer (some ⟨pb, 0, none⟩)) rv (.pointer (some ⟨kb, 0, none⟩)) (.slice sa1 R.st.length sc1) E R), ss1])), hl, hk, by dsimp only; rw [← hb]; rw [if_pos ⟨h15_2, by omega⟩]⟩) (by repeat (first | exact Sub.nil _ | refine Sub.cons rfl ?_)) (by repeat (first | exact Part.nil _ | (apply Part.cons; (first | exact P0 | exact P1 | exact P2 | exact P3 | exact P4 | exact P5 | exact P6 | exact P7 | exact P8 | exact P9 | exact P10 | exact P11 | exact P12 | exact P13 | exact P14 | exact P15 | exact P16 | exact P17 | exact P18 | exact P19 | exact P20 | exact P21 | exact P22 | exact P23)) | (apply Part.flat; simp only [List.cons_append, List.nil_append]) | (apply Part.nilc))) ?_
  rintro ⟨k, R9, loc9, s9, sl9, sk9⟩ ⟨hkn, hm9, hl9, hk9, hr9⟩
  dsimp only at hkn hm9 hl9 hk9 hr9 ⊢
  have hll := flat_inj hl9
  obtain ⟨k, rfl⟩ : ∃ k', k = k' + 1 := by
    cases k with
    | zero => cases hr9
    | succ k' => exact ⟨k', rfl⟩
  obtain ⟨hS9, ⟨qb, qe, Q, ql⟩, hq, hcase⟩ := task_loop hr9
  dsimp only at hcase
  have hseq := hQ k (by omega) R9 s9 la lc loc9 sl9 sk9 src (some ⟨bs, 0, none⟩) sc (i + 1) (c.op) depth (R.st.length) (1) (qb, qe, Q, ql) hm9 (by rw [hll]; exact hl9) (by omega) hk9 hsm hAt0 hd hq
  rw [hll] at hseq
  refine SP_block ?_
  refine SP_seq ?_
  refine SP_region ?_
  refine SPL_y (y_move rfl) rfl ?_
  refine SPL_y (y_move rfl) rfl ?_
  refine SPL_y (y_move rfl) rfl ?_
  refine SPL_y (y_move rfl) rfl ?_
  refine SPL_y (y_move rfl) rfl ?_
  refine SPL_one rfl (SP1_call (hseq) Tryz.call140 rfl rfl (by repeat (first | exact Part.nil _ | (apply Part.cons; (first | exact P0 | exact P1 | exact P2 | exact P3 | exact P4 | exact P5 | exact P6 | exact P7 | exact P8 | exact P9 | exact P10 | exact P11 | exact P12 | exact P13 | exact P14 | exact P15 | exact P16 | exact P17 | exact P18 | exact P19 | exact P20 | exact P21 | exact P22 | exact P23)) | (apply Part.flat; simp only [List.cons_append, List.nil_append]) | (apply Part.nilc))) ?_)
  rintro v post H' ⟨s10, sl10, sk10, st', rfl, rfl, hm10, hst', hl10, hk10⟩ hH
  try simp only [List.cons_append, List.nil_append] at hH
  subst hH
  dsimp only at hm10 hst' hl10 hk10 ⊢
  refine SPL_y (y_move rfl) rfl ?_
  refine SPL_y (y_ext rfl rfl) rfl ?_
  refine SPL_y (y_ext rfl rfl) rfl ?_
  refine SPL_y (y_assign rfl) rfl ?_
  refine SPL_y (y_assign rfl) rfl ?_
  refine SPL_nil ?_
  refine thenP_n ?_
  refine SP_seq ?_
  refine SP_seq ?_
  refine SP_region ?_
  refine SPL_y (y_move rfl) rfl ?_
  refine SPL_if (y_neq rfl rfl) rfl ?_ ?_
  · intro h18_1
    refine SPL_y (y_move rfl) rfl ?_
    refine SPL_gn rfl rfl rfl rfl ?_
    refine SPL_gn rfl rfl rfl rfl ?_
    refine SPL_y (y_pick_t rfl rfl) rfl ?_
    refine SPL_nil ?_
    refine thenP_n ?_
    refine SP_cond_t rfl ?_
    refine SP_seq ?_
    refine SP_region ?_
    refine SPL_y (y_move rfl) rfl ?_
    refine SPL_y (y_move rfl) rfl ?_
    refine SPL_y (y_assign rfl) rfl ?_
    refine SPL_y (y_assign rfl) rfl ?_
    refine SPL_nil ?_
    refine thenP_n ?_
    refine SP_ret ?_
    refine thenP_ret (inBlockP_ret (thenP_ret (inBlockP_ret (bodyP_ret (H' := [s10, sl10, sk10, sp, List.flatten [s6, blk bs 87 (codeV src ++ sps), s7]]) (Res2 rfl rfl rfl) (by repeat (first | exact Part.nil _ | (apply Part.cons; (first | exact P0 | exact P1 | exact P2 | exact P3 | exact P4 | exact P5 | exact P6 | exact P7 | exact P8 | exact P9 | exact P10 | exact P11 | exact P12 | exact P13 | exact P14 | exact P15 | exact P16 | exact P17 | exact P18 | exact P19 | exact P20 | exact P21 | exact P22 | exact P23)) | (apply Part.flat; simp only [List.cons_append, List.nil_append]) | (apply Part.nilc))) ?_))))
    obtain ⟨_, rfl⟩ | ⟨h1, _⟩ | ⟨h1, h2, _⟩ := hcase
    · exact ⟨_, _, _, st', rfl, rfl, hm10, hst', hl10, hk10⟩
    · exact absurd (.inl h18_1) h1
    · exact absurd h1 h18_1
  intro h18_1
  refine SPL_y (y_move rfl) rfl ?_
  refine SPL_gy rfl rfl ?_
  refine SPL_y (y_move rfl) rfl ?_
  refine SPL_gy rfl rfl ?_
  refine SPL_if (y_lss rfl rfl) rfl ?_ ?_
  · intro h18_4
    refine SPL_y (y_pick_f rfl rfl) rfl ?_
    refine SPL_nil ?_
    refine thenP_n ?_
    refine SP_cond_t rfl ?_
    refine SP_seq ?_
    refine SP_region ?_
    refine SPL_y (y_move rfl) rfl ?_
    refine SPL_y (y_move rfl) rfl ?_
    refine SPL_y (y_assign rfl) rfl ?_
    refine SPL_y (y_assign rfl) rfl ?_
    refine SPL_nil ?_
    refine thenP_n ?_
    refine SP_ret ?_
    refine thenP_ret (inBlockP_ret (thenP_ret (inBlockP_ret (bodyP_ret (H' := [s10, sl10, sk10, sp, List.flatten [s6, blk bs 87 (codeV src ++ sps), s7]]) (Res2 rfl rfl rfl) (by repeat (first | exact Part.nil _ | (apply Part.cons; (first | exact P0 | exact P1 | exact P2 | exact P3 | exact P4 | exact P5 | exact P6 | exact P7 | exact P8 | exact P9 | exact P10 | exact P11 | exact P12 | exact P13 | exact P14 | exact P15 | exact P16 | exact P17 | exact P18 | exact P19 | exact P20 | exact P21 | exact P22 | exact P23)) | (apply Part.flat; simp only [List.cons_append, List.nil_append]) | (apply Part.nilc))) ?_))))
    obtain ⟨_, rfl⟩ | ⟨h1, _⟩ | ⟨h1, h2, _⟩ := hcase
    · exact ⟨_, _, _, st', rfl, rfl, hm10, hst', hl10, hk10⟩
    · exact absurd (.inr h18_4) h1
    · omega
  intro h18_4
  refine SPL_y (y_pick_f rfl rfl) rfl ?_
  refine SPL_nil ?_
  refine thenP_n ?_
  refine SP_cond_f rfl ?_
  refine SP_skip ?_
  refine thenP_n ?_
  refine SP_seq ?_
  refine SP_seq ?_
  refine SP_region ?_
  refine SPL_y (y_move rfl) rfl ?_
  refine SPL_if (y_gtr rfl rfl) rfl ?_ ?_
  · intro h20_1
    refine SPL_nil ?_
    refine thenP_n ?_
    refine SP_cond_t rfl ?_
    refine SP_seq ?_
    obtain ⟨h1, _⟩ | ⟨_, hb1, hb2, rfl⟩ | ⟨_, h1, _⟩ := hcase
    · rcases h1 with h1 | h1
      · exact absurd h1 h18_1
      · exact absurd h1 h18_4
    rotate_left
    · omega
    refine SP_region ?_
    refine SPL_y (y_move rfl) rfl ?_
    refine SPL_y (y_sub rfl rfl (by omega)) rfl ?_
    refine SPL_y (y_assign rfl) rfl ?_
    refine SPL_y (y_assign rfl) rfl ?_
    refine SPL_nil ?_
    refine thenP_n ?_
    refine SP_ret ?_
    refine thenP_ret (inBlockP_ret (thenP_ret (inBlockP_ret (bodyP_ret (H' := [s10, sl10, sk10, sp, List.flatten [s6, blk bs 87 (codeV src ++ sps), s7]]) (Res2 rfl rfl rfl) (by repeat (first | exact Part.nil _ | (apply Part.cons; (first | exact P0 | exact P1 | exact P2 | exact P3 | exact P4 | exact P5 | exact P6 | exact P7 | exact P8 | exact P9 | exact P10 | exact P11 | exact P12 | exact P13 | exact P14 | exact P15 | exact P16 | exact P17 | exact P18 | exact P19 | exact P20 | exact P21 | exact P22 | exact P23)) | (apply Part.flat; simp only [List.cons_append, List.nil_append]) | (apply Part.nilc))) ?_))))
    obtain rfl : qe = 0 := Decidable.not_not.1 h18_1
    exact ⟨_, _, _, st', rfl, rfl, hm10, hst', hl10, hk10⟩
  intro h20_1
  refine SPL_nil ?_
  refine thenP_n ?_
  refine SP_cond_f rfl ?_
  refine SP_skip ?_
  refine thenP_n ?_
  refine SP_seq ?_
  refine SP_seq ?_
  obtain ⟨h1, _⟩ | ⟨_, h1, _⟩ | ⟨hq0, hb0, hle, hbd, hcase4⟩ := hcase
  · rcases h1 with h1 | h1
    · exact absurd h1 h18_1
    · exact absurd h1 h18_4
  · exact absurd h1 h20_1
  obtain rfl : qe = 0 := hq0
  obtain rfl : st' = Q.st := hst' rfl
  have hm10 : isR x (.pointer (some ⟨pb, 0, none⟩)) rv (.pointer (some ⟨kb, 0, none⟩)) E Q s10 := hm10
  refine SP_region ?_
  refine SPL_y (y_move rfl) rfl ?_
  refine SPL_y (y_move rfl) rfl ?_
  refine SPL_y (y_move rfl) rfl ?_
  refine SPL_one rfl (SP1_call (rm_cutN x (.pointer (some ⟨pb, 0, none⟩)) rv (.pointer (some ⟨kb, 0, none⟩)) E Q s10 hm10 (R.st.length) (1) hle hbd) Tryz.call141 rfl rfl (by repeat (first | exact Part.nil _ | (apply Part.cons; (first | exact P0 | exact P1 | exact P2 | exact P3 | exact P4 | exact P5 | exact P6 | exact P7 | exact P8 | exact P9 | exact P10 | exact P11 | exact P12 | exact P13 | exact P14 | exact P15 | exact P16 | exact P17 | exact P18 | exact P19 | exact P20 | exact P21 | exact P22 | exact P23)) | (apply Part.flat; simp only [List.cons_append, List.nil_append]) | (apply Part.nilc))) ?_)
  rintro v post H' ⟨s11, rfl, rfl, hm11⟩ hH
  try simp only [List.cons_append, List.nil_append] at hH
  subst hH
  refine SPL_y (y_not_t rfl) rfl ?_
  refine SPL_nil ?_
  refine thenP_n ?_
  refine SP_cond_f rfl ?_
  refine SP_skip ?_
  refine thenP_n ?_
  refine SP_seq ?_
  refine SP_region ?_
  refine SPL_y (y_fa fld_87_0 rfl) rfl ?_
  refine SPL_y (y_load Tryz.isAgg3 rfl (by repeat (first | exact Cell.head rfl | apply Cell.tail))) rfl ?_
  refine SPL_ifn (y_neq rfl rfl) rfl ?_ ?_
  · intro h24_2
    refine SPL_nil ?_
    refine thenP_n ?_
    refine SP_cond_f rfl ?_
    refine SP_skip ?_
    refine inBlockP_n ?_
    refine thenP_n ?_
    obtain ⟨_, h2⟩ | ⟨h2, _⟩ := hcase4
    · exact Again.intro ((k, { Q with st := Q.st.take R.st.length ++ topW Q.st 1 }, ql, s11, sl10, sk10)) (⟨by dsimp only; omega, hm11, hl10, hk10, h2⟩) (by simp only []; omega) (by repeat (first | exact Sub.nil _ | refine Sub.cons rfl ?_)) (by repeat (first | exact Part.nil _ | (apply Part.cons; (first | exact P0 | exact P1 | exact P2 | exact P3 | exact P4 | exact P5 | exact P6 | exact P7 | exact P8 | exact P9 | exact P10 | exact P11 | exact P12 | exact P13 | exact P14 | exact P15 | exact P16 | exact P17 | exact P18 | exact P19 | exact P20 | exact P21 | exact P22 | exact P23)) | (apply Part.flat; simp only [List.cons_append, List.nil_append]) | (apply Part.nilc)))
    · exact absurd (Decidable.not_not.1 h24_2) h2
  intro h24_2
  refine SPL_nil ?_
  refine thenP_n ?_
  refine SP_cond_t rfl ?_
  refine SP_seq ?_
  refine SP_region ?_
  refine SPL_y (y_assign rfl) rfl ?_
  refine SPL_y (y_assign rfl) rfl ?_
  refine SPL_nil ?_
  refine thenP_n ?_
  refine SP_ret ?_
  refine inBlockP_ret (thenP_ret (inBlockP_ret (bodyP_ret (H' := [s11, sl10, sk10, sp, List.flatten [s6, blk bs 87 (codeV src ++ sps), s7]]) (Res2 rfl rfl rfl) (by repeat (first | exact Part.nil _ | (apply Part.cons; (first | exact P0 | exact P1 | exact P2 | exact P3 | exact P4 | exact P5 | exact P6 | exact P7 | exact P8 | exact P9 | exact P10 | exact P11 | exact P12 | exact P13 | exact P14 | exact P15 | exact P16 | exact P17 | exact P18 | exact P19 | exact P20 | exact P21 | exact P22 | exact P23)) | (apply Part.flat; simp only [List.cons_append, List.nil_append]) | (apply Part.nilc))) ?_)))
  obtain ⟨h1, _⟩ | ⟨_, rfl⟩ := hcase4
  · exact absurd h1 h24_2
  · exact ⟨_, _, _, _, rfl, rfl, hm11, fun _ => rfl, hl10, hk10⟩

set_option maxHeartbeats 4000000 in
theorem rm_block2 (x pb kb : Nat) (rv : Value) (E : RE) (sp sx : Seg) (hC : RC E pb rv sp sx) (n : Nat) (hQ : ∀ m, m ≤ n → SeqOk E x pb kb rv sp sx m) (R : RS) (s : Seg) (hm : isR x (.pointer (some ⟨pb, 0, none⟩)) rv (.pointer (some ⟨kb, 0, none⟩)) E R s) (la : Option Addr) (lc : Nat) (loc : List W) (sl : Seg) (hl : Arr 110 2 la loc.length lc (loc.flatMap wv) sl) (hlo : loc.length ≤ 100) (sk : Seg) (hk : isMm kb R.mem sk) (src : List Ins) (hsm : src ∈ E.src) (sa : Option Addr) (sc : Nat) (hAt : SrcAt sx src sa sc) (i : Nat) (hi : i < src.length) (c : Ins) (hci : src[i] = c) (depth : Int) (hd : 0 ≤ depth ∧ depth ≤ 100) (hS : Small R) (r : RR) (hop : c.op = 2) (hb : runM E n ⟨src, i + 1, true, c.op, R.st.length, if c.imm ≠ 0 ∧ c.op ≠ 2 then 1 else 0, depth⟩ R loc = some r) : Spec Tryz.prog 149 [pvp x, .slice sa src.length sc, I i, .slice la loc.length lc, I depth] [s, sl, sk, sp, sx] (Ret (RPost x pb kb rv E sp sx la loc.length lc r)) := by
  obtain ⟨hsl, hwl⟩ := hC.wl src hsm
  have hz := hS.st
  have hAt0 := hAt
  obtain ⟨s6, sv, s7, rfl, hs⟩ := hAt
  obtain ⟨bs, sps, rfl, hsc, hsps, rfl⟩ := hs.row (by omega)
  refine Spec_openAt [s6, blk bs 87 (codeV src ++ sps), s7] (by first | exact P0 | exact P1 | exact P2 | exact P3 | exact P4 | exact P5 | exact P6 | exact P7 | exact P8 | exact P9 | exact P10 | exact P11 | exact P12 | exact P13 | exact P14 | exact P15 | exact P16 | exact P17 | exact P18 | exact P19 | exact P20 | exact P21 | exact P22 | exact P23) ?_
  simp only [List.cons_append, List.nil_append]
  refine Spec_enter Tryz.func149 rfl Tryz.ntmps149 rfl ?_
  show SP _ _ _ _ _ [(0, _), (1, _), (2, _), (3, _), (4, _)] _
  refine SP_seq ?_
  refine SP_region ?_
  refine SPL_y (y_assign rfl) rfl ?_
  refine SPL_y (y_assign rfl) rfl ?_
  refine SPL_nil ?_
  refine thenP_n ?_
  refine SP_seq ?_
  refine SP_region ?_
  refine SPL_y (y_move rfl) rfl ?_
  refine SPL_y (y_move rfl) rfl ?_
  refine SPL_y (y_ia Tryz.underlying34 Tryz.sizeOf87 rfl rfl (by omega)) rfl ?_
  refine SPL_y (y_loads Tryz.isAgg87 Tryz.sizeOf87 rfl rfl (by repeat (first | exact flat_cellsE insV_len (i := i) rfl hi hci | apply Cells.tail))) rfl ?_
  refine SPL_y (y_move rfl) rfl ?_
  refine SPL_y (y_add rfl rfl (by omega)) rfl ?_
  refine SPL_one rfl (SP1_alloc Tryz.zeroValue87 rfl rfl ?_)
  intro b12
  refine SPL_one rfl (SP1_storeAll Tryz.sizeOf87 rfl rfl rfl rfl rfl (by first | exact U0 | exact U1 | exact U2 | exact U3 | exact U4 | exact U5 | exact U6 | exact U7 | exact U8 | exact U9 | exact U10 | exact U11 | exact U12 | exact U13 | exact U14 | exact U15 | exact U16 | exact U17 | exact U18 | exact U19 | exact U20 | exact U21 | exact U22 | exact U23) (by rfl) ?_)
  refine SPL_y (y_assign rfl) rfl ?_
  refine SPL_nil ?_
  refine thenP_n ?_
  refine SP_seq ?_
  refine SP_seq ?_
  refine SP_region ?_
  refine SPL_y (y_fa fld_87_0 rfl) rfl ?_
  refine SPL_y (y_load Tryz.isAgg3 rfl (by repeat (first | exact Cell.head rfl | apply Cell.tail))) rfl ?_
  refine SPL_y (y_eqlF rfl rfl (by omega)) rfl ?_
  refine SPL_nil ?_
  refine thenP_n ?_
  refine SP_cond_f rfl ?_
  refine SP_skip ?_
  refine thenP_n ?_
  refine SP_seq ?_
  obtain ⟨sa1, sc1, ss1, rfl, hst1⟩ := hm
  refine SP_openAt [blk x 119 (instR (.pointer (some ⟨pb, 0, none⟩)) rv (.pointer (some ⟨kb, 0, none⟩)) (.slice sa1 R.st.length sc1) E R), ss1] (by first | exact P0 | exact P1 | exact P2 | exact P3 | exact P4 | exact P5 | exact P6 | exact P7 | exact P8 | exact P9 | exact P10 | exact P11 | exact P12 | exact P13 | exact P14 | exact P15 | exact P16 | exact P17 | exact P18 | exact P19 | exact P20 | exact P21 | exact P22 | exact P23) ?_
  simp only [List.cons_append, List.nil_append, instR]
  refine SP_region ?_
  refine SPL_y (y_move rfl) rfl ?_
  refine SPL_y (y_nil rfl) rfl ?_
  refine SPL_y (y_fa fld_119_3 rfl) rfl ?_
  refine SPL_y (y_load Tryz.isAgg35 rfl (by repeat (first | exact Cell.head rfl | apply Cell.tail))) rfl ?_
  refine SPL_y (y_len_l Tryz.underlying35 rfl) rfl ?_
  refine SPL_y (y_assign rfl) rfl ?_
  refine SPL_y (y_assign rfl) rfl ?_
  refine SPL_nil ?_
  refine thenP_n ?_
  refine SP_seq ?_
  refine SP_seq ?_
  refine SP_region ?_
  refine SPL_y (y_fa fld_87_1 rfl) rfl ?_
  refine SPL_y (y_load Tryz.isAgg3 rfl (by repeat (first | exact Cell.head rfl | apply Cell.tail))) rfl ?_
  refine SPL_ifn (y_neq rfl rfl) rfl ?_ ?_
  · intro h15_2
    refine SPL_y (y_move rfl) rfl ?_
    refine SPL_gn rfl rfl rfl rfl ?_
    refine SPL_gn rfl rfl rfl rfl ?_
    refine SPL_gn rfl rfl rfl rfl ?_
    refine SPL_y (y_pick_f rfl rfl) rfl ?_
    refine SPL_nil ?_
    refine thenP_n ?_
    refine SP_cond_f rfl ?_
    refine SP_skip ?_
    refine thenP_n ?_
    refine SP_block ?_
    refine SP_loop (G := Nat × RS × List W × Seg × Seg × Seg) (fun z => z.1) (fun z => [(0, pvp x), (1, .slice (some ⟨bs, 0, none⟩) src.length sc), (3, .slice la loc.length lc), (4, I depth), (12, pvp b12), (13, I (i + 1 : Nat)), (19, I (R.st.length : Nat)), (20, I (0 : Nat))]) (fun z => [z.2.2.2.1, z.2.2.2.2.1, z.2.2.2.2.2, sp, List.flatten [s6, blk bs 87 (codeV src ++ sps), s7], blk b12 87 (insV c)]) (fun z => z.1 ≤ n ∧ isR x (.pointer (some ⟨pb, 0, none⟩)) rv (.pointer (some ⟨kb, 0, none⟩)) E z.2.1 z.2.2.2.1 ∧ Arr 110 2 la loc.length lc (z.2.2.1.flatMap wv) z.2.2.2.2.1 ∧ isMm kb z.2.1.mem z.2.2.2.2.2 ∧ runM E z.1 ⟨src, i + 1, true, c.op, R.st.length, 0, depth⟩ z.2.1 z.2.2.1 = some r) ((n, R, loc, List.flatten [blk x 119 (instR (.pointer (some ⟨pb, 0, none⟩)) rv (.pointer (some ⟨kb, 0, none⟩)) (.slice sa1 R.st.length sc1) E R), ss1], sl, sk)) (⟨Nat.le_refl _, (⟨sa1, sc1, ss1, rfl, hst1⟩ : isR x (.pointer (some ⟨pb, 0, none⟩)) rv (.pointer (some ⟨kb, 0, none⟩)) E R (List.flatten [blk x 119 (instR (.pointer (some ⟨pb, 0, none⟩)) rv (.pointer (some ⟨kb, 0, none⟩)) (.slice sa1 R.st.length sc1) E R), ss1])), hl, hk, by dsimp only; rw [← hb]; rw [if_neg (fun h => h.2 hop)]⟩) (by repeat (first | exact Sub.nil _ | refine Sub.cons rfl ?_)) (by repeat (first | exact Part.nil _ | (apply Part.cons; (first | exact P0 | exact P1 | exact P2 | exact P3 | exact P4 | exact P5 | exact P6 | exact P7 | exact P8 | exact P9 | exact P10 | exact P11 | exact P12 | exact P13 | exact P14 | exact P15 | exact P16 | exact P17 | exact P18 | exact P19 | exact P20 | exact P21 | exact P22 | exact P23)) | (apply Part.flat; simp only [List.cons_append, List.nil_append]) | (apply Part.nilc))) ?_
    rintro ⟨k, R9, loc9, s9, sl9, sk9⟩ ⟨hkn, hm9, hl9, hk9, hr9⟩
    dsimp only at hkn hm9 hl9 hk9 hr9 ⊢
    have hll := flat_inj hl9
    obtain ⟨k, rfl⟩ : ∃ k', k = k' + 1 := by
      cases k with
      | zero => cases hr9
      | succ k' => exact ⟨k', rfl⟩
    obtain ⟨hS9, ⟨qb, qe, Q, ql⟩, hq, hcase⟩ := task_loop hr9
    dsimp only at hcase
    have hseq := hQ k (by omega) R9 s9 la lc loc9 sl9 sk9 src (some ⟨bs, 0, none⟩) sc (i + 1) (c.op) depth (R.st.length) (0) (qb, qe, Q, ql) hm9 (by rw [hll]; exact hl9) (by omega) hk9 hsm hAt0 hd hq
    rw [hll] at hseq
    refine SP_block ?_
    refine SP_seq ?_
    refine SP_region ?_
    refine SPL_y (y_move rfl) rfl ?_
    refine SPL_y (y_move rfl) rfl ?_
    refine SPL_y (y_move rfl) rfl ?_
    refine SPL_y (y_move rfl) rfl ?_
    refine SPL_y (y_move rfl) rfl ?_
    refine SPL_one rfl (SP1_call (hseq) Tryz.call140 rfl rfl (by repeat (first | exact Part.nil _ | (apply Part.cons; (first | exact P0 | exact P1 | exact P2 | exact P3 | exact P4 | exact P5 | exact P6 | exact P7 | exact P8 | exact P9 | exact P10 | exact P11 | exact P12 | exact P13 | exact P14 | exact P15 | exact P16 | exact P17 | exact P18 | exact P19 | exact P20 | exact P21 | exact P22 | exact P23)) | (apply Part.flat; simp only [List.cons_append, List.nil_append]) | (apply Part.nilc))) ?_)
    rintro v post H' ⟨s10, sl10, sk10, st', rfl, rfl, hm10, hst', hl10, hk10⟩ hH
    try simp only [List.cons_append, List.nil_append] at hH
    subst hH
    dsimp only at hm10 hst' hl10 hk10 ⊢
    refine SPL_y (y_move rfl) rfl ?_
    refine SPL_y (y_ext rfl rfl) rfl ?_
    refine SPL_y (y_ext rfl rfl) rfl ?_
    refine SPL_y (y_assign rfl) rfl ?_
    refine SPL_y (y_assign rfl) rfl ?_
    refine SPL_nil ?_
    refine thenP_n ?_
    refine SP_seq ?_
    refine SP_seq ?_
    refine SP_region ?_
    refine SPL_y (y_move rfl) rfl ?_
    refine SPL_if (y_neq rfl rfl) rfl ?_ ?_
    · intro h18_1
      refine SPL_y (y_move rfl) rfl ?_
      refine SPL_gn rfl rfl rfl rfl ?_
      refine SPL_gn rfl rfl rfl rfl ?_
      refine SPL_y (y_pick_t rfl rfl) rfl ?_
      refine SPL_nil ?_
      refine thenP_n ?_
      refine SP_cond_t rfl ?_
      refine SP_seq ?_
      refine SP_region ?_
      refine SPL_y (y_move rfl) rfl ?_
      refine SPL_y (y_move rfl) rfl ?_
      refine SPL_y (y_assign rfl) rfl ?_
      refine SPL_y (y_assign rfl) rfl ?_
      refine SPL_nil ?_
      refine thenP_n ?_
      refine SP_ret ?_
      refine thenP_ret (inBlockP_ret (thenP_ret (inBlockP_ret (bodyP_ret (H' := [s10, sl10, sk10, sp, List.flatten [s6, blk bs 87 (codeV src ++ sps), s7]]) (Res2 rfl rfl rfl) (by repeat (first | exact Part.nil _ | (apply Part.cons; (first | exact P0 | exact P1 | exact P2 | exact P3 | exact P4 | exact P5 | exact P6 | exact P7 | exact P8 | exact P9 | exact P10 | exact P11 | exact P12 | exact P13 | exact P14 | exact P15 | exact P16 | exact P17 | exact P18 | exact P19 | exact P20 | exact P21 | exact P22 | exact P23)) | (apply Part.flat; simp only [List.cons_append, List.nil_append]) | (apply Part.nilc))) ?_))))
      obtain ⟨_, rfl⟩ | ⟨h1, _⟩ | ⟨h1, h2, _⟩ := hcase
      · exact ⟨_, _, _, st', rfl, rfl, hm10, hst', hl10, hk10⟩
      · exact absurd (.inl h18_1) h1
      · exact absurd h1 h18_1
    intro h18_1
    refine SPL_y (y_move rfl) rfl ?_
    refine SPL_gy rfl rfl ?_
    refine SPL_y (y_move rfl) rfl ?_
    refine SPL_gy rfl rfl ?_
    refine SPL_if (y_lss rfl rfl) rfl ?_ ?_
    · intro h18_4
      refine SPL_y (y_pick_f rfl rfl) rfl ?_
      refine SPL_nil ?_
      refine thenP_n ?_
      refine SP_cond_t rfl ?_
      refine SP_seq ?_
      refine SP_region ?_
      refine SPL_y (y_move rfl) rfl ?_
      refine SPL_y (y_move rfl) rfl ?_
      refine SPL_y (y_assign rfl) rfl ?_
      refine SPL_y (y_assign rfl) rfl ?_
      refine SPL_nil ?_
      refine thenP_n ?_
      refine SP_ret ?_
      refine thenP_ret (inBlockP_ret (thenP_ret (inBlockP_ret (bodyP_ret (H' := [s10, sl10, sk10, sp, List.flatten [s6, blk bs 87 (codeV src ++ sps), s7]]) (Res2 rfl rfl rfl) (by repeat (first | exact Part.nil _ | (apply Part.cons; (first | exact P0 | exact P1 | exact P2 | exact P3 | exact P4 | exact P5 | exact P6 | exact P7 | exact P8 | exact P9 | exact P10 | exact P11 | exact P12 | exact P13 | exact P14 | exact P15 | exact P16 | exact P17 | exact P18 | exact P19 | exact P20 | exact P21 | exact P22 | exact P23)) | (apply Part.flat; simp only [List.cons_append, List.nil_append]) | (apply Part.nilc))) ?_))))
      obtain ⟨_, rfl⟩ | ⟨h1, _⟩ | ⟨h1, h2, _⟩ := hcase
      · exact ⟨_, _, _, st', rfl, rfl, hm10, hst', hl10, hk10⟩
      · exact absurd (.inr h18_4) h1
      · omega
    intro h18_4
    refine SPL_y (y_pick_f rfl rfl) rfl ?_
    refine SPL_nil ?_
    refine thenP_n ?_
    refine SP_cond_f rfl ?_
    refine SP_skip ?_
    refine thenP_n ?_
    refine SP_seq ?_
    refine SP_seq ?_
    refine SP_region ?_
    refine SPL_y (y_move rfl) rfl ?_
    refine SPL_if (y_gtr rfl rfl) rfl ?_ ?_
    · intro h20_1
      refine SPL_nil ?_
      refine thenP_n ?_
      refine SP_cond_t rfl ?_
      refine SP_seq ?_
      obtain ⟨h1, _⟩ | ⟨_, hb1, hb2, rfl⟩ | ⟨_, h1, _⟩ := hcase
      · rcases h1 with h1 | h1
        · exact absurd h1 h18_1
        · exact absurd h1 h18_4
      rotate_left
      · omega
      refine SP_region ?_
      refine SPL_y (y_move rfl) rfl ?_
      refine SPL_y (y_sub rfl rfl (by omega)) rfl ?_
      refine SPL_y (y_assign rfl) rfl ?_
      refine SPL_y (y_assign rfl) rfl ?_
      refine SPL_nil ?_
      refine thenP_n ?_
      refine SP_ret ?_
      refine thenP_ret (inBlockP_ret (thenP_ret (inBlockP_ret (bodyP_ret (H' := [s10, sl10, sk10, sp, List.flatten [s6, blk bs 87 (codeV src ++ sps), s7]]) (Res2 rfl rfl rfl) (by repeat (first | exact Part.nil _ | (apply Part.cons; (first | exact P0 | exact P1 | exact P2 | exact P3 | exact P4 | exact P5 | exact P6 | exact P7 | exact P8 | exact P9 | exact P10 | exact P11 | exact P12 | exact P13 | exact P14 | exact P15 | exact P16 | exact P17 | exact P18 | exact P19 | exact P20 | exact P21 | exact P22 | exact P23)) | (apply Part.flat; simp only [List.cons_append, List.nil_append]) | (apply Part.nilc))) ?_))))
      obtain rfl : qe = 0 := Decidable.not_not.1 h18_1
      exact ⟨_, _, _, st', rfl, rfl, hm10, hst', hl10, hk10⟩
    intro h20_1
    refine SPL_nil ?_
    refine thenP_n ?_
    refine SP_cond_f rfl ?_
    refine SP_skip ?_
    refine thenP_n ?_
    refine SP_seq ?_
    refine SP_seq ?_
    obtain ⟨h1, _⟩ | ⟨_, h1, _⟩ | ⟨hq0, hb0, hle, hbd, hcase4⟩ := hcase
    · rcases h1 with h1 | h1
      · exact absurd h1 h18_1
      · exact absurd h1 h18_4
    · exact absurd h1 h20_1
    obtain rfl : qe = 0 := hq0
    obtain rfl : st' = Q.st := hst' rfl
    have hm10 : isR x (.pointer (some ⟨pb, 0, none⟩)) rv (.pointer (some ⟨kb, 0, none⟩)) E Q s10 := hm10
    refine SP_region ?_
    refine SPL_y (y_move rfl) rfl ?_
    refine SPL_y (y_move rfl) rfl ?_
    refine SPL_y (y_move rfl) rfl ?_
    refine SPL_one rfl (SP1_call (rm_cutN x (.pointer (some ⟨pb, 0, none⟩)) rv (.pointer (some ⟨kb, 0, none⟩)) E Q s10 hm10 (R.st.length) (0) hle hbd) Tryz.call141 rfl rfl (by repeat (first | exact Part.nil _ | (apply Part.cons; (first | exact P0 | exact P1 | exact P2 | exact P3 | exact P4 | exact P5 | exact P6 | exact P7 | exact P8 | exact P9 | exact P10 | exact P11 | exact P12 | exact P13 | exact P14 | exact P15 | exact P16 | exact P17 | exact P18 | exact P19 | exact P20 | exact P21 | exact P22 | exact P23)) | (apply Part.flat; simp only [List.cons_append, List.nil_append]) | (apply Part.nilc))) ?_)
    rintro v post H' ⟨s11, rfl, rfl, hm11⟩ hH
    try simp only [List.cons_append, List.nil_append] at hH
    subst hH
    refine SPL_y (y_not_t rfl) rfl ?_
    refine SPL_nil ?_
    refine thenP_n ?_
    refine SP_cond_f rfl ?_
    refine SP_skip ?_
    refine thenP_n ?_
    refine SP_seq ?_
    refine SP_region ?_
    refine SPL_y (y_fa fld_87_0 rfl) rfl ?_
    refine SPL_y (y_load Tryz.isAgg3 rfl (by repeat (first | exact Cell.head rfl | apply Cell.tail))) rfl ?_
    refine SPL_ifn (y_neq rfl rfl) rfl ?_ ?_
    · intro h24_2
      refine SPL_nil ?_
      refine thenP_n ?_
      refine SP_cond_f rfl ?_
      refine SP_skip ?_
      refine inBlockP_n ?_
      refine thenP_n ?_
      obtain ⟨_, h2⟩ | ⟨h2, _⟩ := hcase4
      · exact Again.intro ((k, { Q with st := Q.st.take R.st.length ++ topW Q.st 0 }, ql, s11, sl10, sk10)) (⟨by dsimp only; omega, hm11, hl10, hk10, h2⟩) (by simp only []; omega) (by repeat (first | exact Sub.nil _ | refine Sub.cons rfl ?_)) (by repeat (first | exact Part.nil _ | (apply Part.cons; (first | exact P0 | exact P1 | exact P2 | exact P3 | exact P4 | exact P5 | exact P6 | exact P7 | exact P8 | exact P9 | exact P10 | exact P11 | exact P12 | exact P13 | exact P14 | exact P15 | exact P16 | exact P17 | exact P18 | exact P19 | exact P20 | exact P21 | exact P22 | exact P23)) | (apply Part.flat; simp only [List.cons_append, List.nil_append]) | (apply Part.nilc)))
      · exact absurd (Decidable.not_not.1 h24_2) h2
    intro h24_2
    refine SPL_nil ?_
    refine thenP_n ?_
    refine SP_cond_t rfl ?_
    refine SP_seq ?_
    refine SP_region ?_
    refine SPL_y (y_assign rfl) rfl ?_
    refine SPL_y (y_assign rfl) rfl ?_
    refine SPL_nil ?_
    refine thenP_n ?_
    refine SP_ret ?_
    refine inBlockP_ret (thenP_ret (inBlockP_ret (bodyP_ret (H' := [s11, sl10, sk10, sp, List.flatten [s6, blk bs 87 (codeV src ++ sps), s7]]) (Res2 rfl rfl rfl) (by repeat (first | exact Part.nil _ | (apply Part.cons; (first | exact P0 | exact P1 | exact P2 | exact P3 | exact P4 | exact P5 | exact P6 | exact P7 | exact P8 | exact P9 | exact P10 | exact P11 | exact P12 | exact P13 | exact P14 | exact P15 | exact P16 | exact P17 | exact P18 | exact P19 | exact P20 | exact P21 | exact P22 | exact P23)) | (apply Part.flat; simp only [List.cons_append, List.nil_append]) | (apply Part.nilc))) ?_)))
    obtain ⟨h1, _⟩ | ⟨_, rfl⟩ := hcase4
    · exact absurd h1 h24_2
    · exact ⟨_, _, _, _, rfl, rfl, hm11, fun _ => rfl, hl10, hk10⟩
  intro h15_2
  refine SPL_y (y_move rfl) rfl ?_
  refine SPL_gy rfl rfl ?_
  refine SPL_y (y_fa fld_87_0 rfl) rfl ?_
  refine SPL_gy rfl rfl ?_
  refine SPL_y (y_load Tryz.isAgg3 rfl (by repeat (first | exact Cell.head rfl | apply Cell.tail))) rfl ?_
  refine SPL_gy rfl rfl ?_
  refine SPL_y (y_neqNo rfl rfl (by omega)) rfl ?_
  refine SPL_y (y_pick_t rfl rfl) rfl ?_
  refine SPL_nil ?_
  refine thenP_n ?_
  refine SP_cond_f rfl ?_
  refine SP_skip ?_
  refine thenP_n ?_
  refine SP_block ?_
  refine SP_loop (G := Nat × RS × List W × Seg × Seg × Seg) (fun z => z.1) (fun z => [(0, pvp x), (1, .slice (some ⟨bs, 0, none⟩) src.length sc), (3, .slice la loc.length lc), (4, I depth), (12, pvp b12), (13, I (i + 1 : Nat)), (19, I (R.st.length : Nat)), (20, I (0 : Nat))]) (fun z => [z.2.2.2.1, z.2.2.2.2.1, z.2.2.2.2.2, sp, List.flatten [s6, blk bs 87 (codeV src ++ sps), s7], blk b12 87 (insV c)]) (fun z => z.1 ≤ n ∧ isR x (.pointer (some ⟨pb, 0, none⟩)) rv (.pointer (some ⟨kb, 0, none⟩)) E z.2.1 z.2.2.2.1 ∧ Arr 110 2 la loc.length lc (z.2.2.1.flatMap wv) z.2.2.2.2.1 ∧ isMm kb z.2.1.mem z.2.2.2.2.2 ∧ runM E z.1 ⟨src, i + 1, true, c.op, R.st.length, 0, depth⟩ z.2.1 z.2.2.1 = some r) ((n, R, loc, List.flatten [blk x 119 (instR (.pointer (some ⟨pb, 0, none⟩)) rv (.pointer (some ⟨kb, 0, none⟩)) (.slice sa1 R.st.length sc1) E R), ss1], sl, sk)) (⟨Nat.le_refl _, (⟨sa1, sc1, ss1, rfl, hst1⟩ : isR x (.pointer (some ⟨pb, 0, none⟩)) rv (.pointer (some ⟨kb, 0, none⟩)) E R (List.flatten [blk x 119 (instR (.pointer (some ⟨pb, 0, none⟩)) rv (.pointer (some ⟨kb, 0, none⟩)) (.slice sa1 R.st.length sc1) E R), ss1])), hl, hk, by dsimp only; rw [← hb]; rw [if_neg (fun h => h.2 hop)]⟩) (by repeat (first | exact Sub.nil _ | refine Sub.cons rfl ?_)) (by repeat (first | exact Part.nil _ | (apply Part.cons; (first | exact P0 | exact P1 | exact P2 | exact P3 | exact P4 | exact P5 | exact P6 | exact P7 | exact P8 | exact P9 | exact P10 | exact P11 | exact P12 | exact P13 | exact P14 | exact P15 | exact P16 | exact P17 | exact P18 | exact P19 | exact P20 | exact P21 | exact P22 | exact P23)) | (apply Part.flat; simp only [List.cons_append, List.nil_append]) | (apply Part.nilc))) ?_
  rintro ⟨k, R9, loc9, s9, sl9, sk9⟩ ⟨hkn, hm9, hl9, hk9, hr9⟩
  dsimp only at hkn hm9 hl9 hk9 hr9 ⊢
  have hll := flat_inj hl9
  obtain ⟨k, rfl⟩ : ∃ k', k = k' + 1 := by
    cases k with
    | zero => cases hr9
    | succ k' => exact ⟨k', rfl⟩
  obtain ⟨hS9, ⟨qb, qe, Q, ql⟩, hq, hcase⟩ := task_loop hr9
  dsimp only at hcase
  have hseq := hQ k (by omega) R9 s9 la lc loc9 sl9 sk9 src (some ⟨bs, 0, none⟩) sc (i + 1) (c.op) depth (R.st.length) (0) (qb, qe, Q, ql) hm9 (by rw [hll]; exact hl9) (by omega) hk9 hsm hAt0 hd hq
  rw [hll] at hseq
  refine SP_block ?_
  refine SP_seq ?_
  refine SP_region ?_
  refine SPL_y (y_move rfl) rfl ?_
  refine SPL_y (y_move rfl) rfl ?_
  refine SPL_y (y_move rfl) rfl ?_
  refine SPL_y (y_move rfl) rfl ?_
  refine SPL_y (y_move rfl) rfl ?_
  refine SPL_one rfl (SP1_call (hseq) Tryz.call140 rfl rfl (by repeat (first | exact Part.nil _ | (apply Part.cons; (first | exact P0 | exact P1 | exact P2 | exact P3 | exact P4 | exact P5 | exact P6 | exact P7 | exact P8 | exact P9 | exact P10 | exact P11 | exact P12 | exact P13 | exact P14 | exact P15 | exact P16 | exact P17 | exact P18 | exact P19 | exact P20 | exact P21 | exact P22 | exact P23)) | (apply Part.flat; simp only [List.cons_append, List.nil_append]) | (apply Part.nilc))) ?_)
  rintro v post H' ⟨s10, sl10, sk10, st', rfl, rfl, hm10, hst', hl10, hk10⟩ hH
  try simp only [List.cons_append, List.nil_append] at hH
  subst hH
  dsimp only at hm10 hst' hl10 hk10 ⊢
  refine SPL_y (y_move rfl) rfl ?_
  refine SPL_y (y_ext rfl rfl) rfl ?_
  refine SPL_y (y_ext rfl rfl) rfl ?_
  refine SPL_y (y_assign rfl) rfl ?_
  refine SPL_y (y_assign rfl) rfl ?_
  refine SPL_nil ?_
  refine thenP_n ?_
  refine SP_seq ?_
  refine SP_seq ?_
  refine SP_region ?_
  refine SPL_y (y_move rfl) rfl ?_
  refine SPL_if (y_neq rfl rfl) rfl ?_ ?_
  · intro h18_1
    refine SPL_y (y_move rfl) rfl ?_
    refine SPL_gn rfl rfl rfl rfl ?_
    refine SPL_gn rfl rfl rfl rfl ?_
    refine SPL_y (y_pick_t rfl rfl) rfl ?_
    refine SPL_nil ?_
    refine thenP_n ?_
    refine SP_cond_t rfl ?_
    refine SP_seq ?_
    refine SP_region ?_
    refine SPL_y (y_move rfl) rfl ?_
    refine SPL_y (y_move rfl) rfl ?_
    refine SPL_y (y_assign rfl) rfl ?_
    refine SPL_y (y_assign rfl) rfl ?_
    refine SPL_nil ?_
    refine thenP_n ?_
    refine SP_ret ?_
    refine thenP_ret (inBlockP_ret (thenP_ret (inBlockP_ret (bodyP_ret (H' := [s10, sl10, sk10, sp, List.flatten [s6, blk bs 87 (codeV src ++ sps), s7]]) (Res2 rfl rfl rfl) (by repeat (first | exact Part.nil _ | (apply Part.cons; (first | exact P0 | exact P1 | exact P2 | exact P3 | exact P4 | exact P5 | exact P6 | exact P7 | exact P8 | exact P9 | exact P10 | exact P11 | exact P12 | exact P13 | exact P14 | exact P15 | exact P16 | exact P17 | exact P18 | exact P19 | exact P20 | exact P21 | exact P22 | exact P23)) | (apply Part.flat; simp only [List.cons_append, List.nil_append]) | (apply Part.nilc))) ?_))))
    obtain ⟨_, rfl⟩ | ⟨h1, _⟩ | ⟨h1, h2, _⟩ := hcase
    · exact ⟨_, _, _, st', rfl, rfl, hm10, hst', hl10, hk10⟩
    · exact absurd (.inl h18_1) h1
    · exact absurd h1 h18_1
  intro h18_1
  refine SPL_y (y_move rfl) rfl ?_
  refine SPL_gy rfl rfl ?_
  refine SPL_y (y_move rfl) rfl ?_
  refine SPL_gy rfl rfl ?_
  refine SPL_if (y_lss rfl rfl) rfl ?_ ?_
  · intro h18_4
    refine SPL_y (y_pick_f rfl rfl) rfl ?_
    refine SPL_nil ?_
    refine thenP_n ?_
    refine SP_cond_t rfl ?_
    refine SP_seq ?_
    refine SP_region ?_
    refine SPL_y (y_move rfl) rfl ?_
    refine SPL_y (y_move rfl) rfl ?_
    refine SPL_y (y_assign rfl) rfl ?_
    refine SPL_y (y_assign rfl) rfl ?_
    refine SPL_nil ?_
    refine thenP_n ?_
    refine SP_ret ?_
    refine thenP_ret (inBlockP_ret (thenP_ret (inBlockP_ret (bodyP_ret (H' := [s10, sl10, sk10, sp, List.flatten [s6, blk bs 87 (codeV src ++ sps), s7]]) (Res2 rfl rfl rfl) (by repeat (first | exact Part.nil _ | (apply Part.cons; (first | exact P0 | exact P1 | exact P2 | exact P3 | exact P4 | exact P5 | exact P6 | exact P7 | exact P8 | exact P9 | exact P10 | exact P11 | exact P12 | exact P13 | exact P14 | exact P15 | exact P16 | exact P17 | exact P18 | exact P19 | exact P20 | exact P21 | exact P22 | exact P23)) | (apply Part.flat; simp only [List.cons_append, List.nil_append]) | (apply Part.nilc))) ?_))))
    obtain ⟨_, rfl⟩ | ⟨h1, _⟩ | ⟨h1, h2, _⟩ := hcase
    · exact ⟨_, _, _, st', rfl, rfl, hm10, hst', hl10, hk10⟩
    · exact absurd (.inr h18_4) h1
    · omega
  intro h18_4
  refine SPL_y (y_pick_f rfl rfl) rfl ?_
  refine SPL_nil ?_
  refine thenP_n ?_
  refine SP_cond_f rfl ?_
  refine SP_skip ?_
  refine thenP_n ?_
  refine SP_seq ?_
  refine SP_seq ?_
  refine SP_region ?_
  refine SPL_y (y_move rfl) rfl ?_
  refine SPL_if (y_gtr rfl rfl) rfl ?_ ?_
  · intro h20_1
    refine SPL_nil ?_
    refine thenP_n ?_
    refine SP_cond_t rfl ?_
    refine SP_seq ?_
    obtain ⟨h1, _⟩ | ⟨_, hb1, hb2, rfl⟩ | ⟨_, h1, _⟩ := hcase
    · rcases h1 with h1 | h1
      · exact absurd h1 h18_1
      · exact absurd h1 h18_4
    rotate_left
    · omega
    refine SP_region ?_
    refine SPL_y (y_move rfl) rfl ?_
    refine SPL_y (y_sub rfl rfl (by omega)) rfl ?_
    refine SPL_y (y_assign rfl) rfl ?_
    refine SPL_y (y_assign rfl) rfl ?_
    refine SPL_nil ?_
    refine thenP_n ?_
    refine SP_ret ?_
    refine thenP_ret (inBlockP_ret (thenP_ret (inBlockP_ret (bodyP_ret (H' := [s10, sl10, sk10, sp, List.flatten [s6, blk bs 87 (codeV src ++ sps), s7]]) (Res2 rfl rfl rfl) (by repeat (first | exact Part.nil _ | (apply Part.cons; (first | exact P0 | exact P1 | exact P2 | exact P3 | exact P4 | exact P5 | exact P6 | exact P7 | exact P8 | exact P9 | exact P10 | exact P11 | exact P12 | exact P13 | exact P14 | exact P15 | exact P16 | exact P17 | exact P18 | exact P19 | exact P20 | exact P21 | exact P22 | exact P23)) | (apply Part.flat; simp only [List.cons_append, List.nil_append]) | (apply Part.nilc))) ?_))))
    obtain rfl : qe = 0 := Decidable.not_not.1 h18_1
    exact ⟨_, _, _, st', rfl, rfl, hm10, hst', hl10, hk10⟩
  intro h20_1
  refine SPL_nil ?_
  refine thenP_n ?_
  refine SP_cond_f rfl ?_
  refine SP_skip ?_
  refine thenP_n ?_
  refine SP_seq ?_
  refine SP_seq ?_
  obtain ⟨h1, _⟩ | ⟨_, h1, _⟩ | ⟨hq0, hb0, hle, hbd, hcase4⟩ := hcase
  · rcases h1 with h1 | h1
    · exact absurd h1 h18_1
    · exact absurd h1 h18_4
  · exact absurd h1 h20_1
  obtain rfl : qe = 0 := hq0
  obtain rfl : st' = Q.st := hst' rfl
  have hm10 : isR x (.pointer (some ⟨pb, 0, none⟩)) rv (.pointer (some ⟨kb, 0, none⟩)) E Q s10 := hm10
  refine SP_region ?_
  refine SPL_y (y_move rfl) rfl ?_
  refine SPL_y (y_move rfl) rfl ?_
  refine SPL_y (y_move rfl) rfl ?_
  refine SPL_one rfl (SP1_call (rm_cutN x (.pointer (some ⟨pb, 0, none⟩)) rv (.pointer (some ⟨kb, 0, none⟩)) E Q s10 hm10 (R.st.length) (0) hle hbd) Tryz.call141 rfl rfl (by repeat (first | exact Part.nil _ | (apply Part.cons; (first | exact P0 | exact P1 | exact P2 | exact P3 | exact P4 | exact P5 | exact P6 | exact P7 | exact P8 | exact P9 | exact P10 | exact P11 | exact P12 | exact P13 | exact P14 | exact P15 | exact P16 | exact P17 | exact P18 | exact P19 | exact P20 | exact P21 | exact P22 | exact P23)) | (apply Part.flat; simp only [List.cons_append, List.nil_append]) | (apply Part.nilc))) ?_)
  rintro v post H' ⟨s11, rfl, rfl, hm11⟩ hH
  try simp only [List.cons_append, List.nil_append] at hH
  subst hH
  refine SPL_y (y_not_t rfl) rfl ?_
  refine SPL_nil ?_
  refine thenP_n ?_
  refine SP_cond_f rfl ?_
  refine SP_skip ?_
  refine thenP_n ?_
  refine SP_seq ?_
  refine SP_region ?_
  refine SPL_y (y_fa fld_87_0 rfl) rfl ?_
  refine SPL_y (y_load Tryz.isAgg3 rfl (by repeat (first | exact Cell.head rfl | apply Cell.tail))) rfl ?_
  refine SPL_ifn (y_neq rfl rfl) rfl ?_ ?_
  · intro h24_2
    refine SPL_nil ?_
    refine thenP_n ?_
    refine SP_cond_f rfl ?_
    refine SP_skip ?_
    refine inBlockP_n ?_
    refine thenP_n ?_
    obtain ⟨_, h2⟩ | ⟨h2, _⟩ := hcase4
    · exact Again.intro ((k, { Q with st := Q.st.take R.st.length ++ topW Q.st 0 }, ql, s11, sl10, sk10)) (⟨by dsimp only; omega, hm11, hl10, hk10, h2⟩) (by simp only []; omega) (by repeat (first | exact Sub.nil _ | refine Sub.cons rfl ?_)) (by repeat (first | exact Part.nil _ | (apply Part.cons; (first | exact P0 | exact P1 | exact P2 | exact P3 | exact P4 | exact P5 | exact P6 | exact P7 | exact P8 | exact P9 | exact P10 | exact P11 | exact P12 | exact P13 | exact P14 | exact P15 | exact P16 | exact P17 | exact P18 | exact P19 | exact P20 | exact P21 | exact P22 | exact P23)) | (apply Part.flat; simp only [List.cons_append, List.nil_append]) | (apply Part.nilc)))
    · exact absurd (Decidable.not_not.1 h24_2) h2
  intro h24_2
  refine SPL_nil ?_
  refine thenP_n ?_
  refine SP_cond_t rfl ?_
  refine SP_seq ?_
  refine SP_region ?_
  refine SPL_y (y_assign rfl) rfl ?_
  refine SPL_y (y_assign rfl) rfl ?_
  refine SPL_nil ?_
  refine thenP_n ?_
  refine SP_ret ?_
  refine inBlockP_ret (thenP_ret (inBlockP_ret (bodyP_ret (H' := [s11, sl10, sk10, sp, List.flatten [s6, blk bs 87 (codeV src ++ sps), s7]]) (Res2 rfl rfl rfl) (by repeat (first | exact Part.nil _ | (apply Part.cons; (first | exact P0 | exact P1 | exact P2 | exact P3 | exact P4 | exact P5 | exact P6 | exact P7 | exact P8 | exact P9 | exact P10 | exact P11 | exact P12 | exact P13 | exact P14 | exact P15 | exact P16 | exact P17 | exact P18 | exact P19 | exact P20 | exact P21 | exact P22 | exact P23)) | (apply Part.flat; simp only [List.cons_append, List.nil_append]) | (apply Part.nilc))) ?_)))
  obtain ⟨h1, _⟩ | ⟨_, rfl⟩ := hcase4
  · exact absurd h1 h24_2
  · exact ⟨_, _, _, _, rfl, rfl, hm11, fun _ => rfl, hl10, hk10⟩

set_option maxHeartbeats 8000000 in
theorem rm_block3 (x pb kb : Nat) (rv : Value) (E : RE) (sp sx : Seg) (hC : RC E pb rv sp sx) (n : Nat) (hQ : ∀ m, m ≤ n → SeqOk E x pb kb rv sp sx m) (R : RS) (s : Seg) (hm : isR x (.pointer (some ⟨pb, 0, none⟩)) rv (.pointer (some ⟨kb, 0, none⟩)) E R s) (la : Option Addr) (lc : Nat) (loc : List W) (sl : Seg) (hl : Arr 110 2 la loc.length lc (loc.flatMap wv) sl) (hlo : loc.length ≤ 100) (sk : Seg) (hk : isMm kb R.mem sk) (src : List Ins) (hsm : src ∈ E.src) (sa : Option Addr) (sc : Nat) (hAt : SrcAt sx src sa sc) (i : Nat) (hi : i < src.length) (c : Ins) (hci : src[i] = c) (depth : Int) (hd : 0 ≤ depth ∧ depth ≤ 100) (hS : Small R) (r : RR) (hop : c.op = 3) (hpay : ¬ E.fuel ≤ R.used) (A : List W) (y : W) (hy : R.st = A ++ [y]) (hw : y.t = 105) (hb : (if y.n = 0 then (if (ends src i).1 < 0 then some (-1, 0, ({ R.pay with st := A } : RS), loc) else runM E n ⟨src, ((ends src i).1 + 1).toNat, true, 3, A.length, if c.imm ≠ 0 then 1 else 0, depth⟩ ({ R.pay with st := A } : RS) loc) else runM E n ⟨src, i + 1, true, 3, A.length, if c.imm ≠ 0 then 1 else 0, depth⟩ ({ R.pay with st := A } : RS) loc) = some r) : Spec Tryz.prog 149 [pvp x, .slice sa src.length sc, I i, .slice la loc.length lc, I depth] [s, sl, sk, sp, sx] (Ret (RPost x pb kb rv E sp sx la loc.length lc r)) := by
  obtain ⟨hsl, hwl⟩ := hC.wl src hsm
  have hz := hS.st
  have hAt0 := hAt
  obtain ⟨s6, sv, s7, rfl, hs⟩ := hAt
  obtain ⟨bs, sps, rfl, hsc, hsps, rfl⟩ := hs.row (by omega)
  refine Spec_openAt [s6, blk bs 87 (codeV src ++ sps), s7] (by first | exact P0 | exact P1 | exact P2 | exact P3 | exact P4 | exact P5 | exact P6 | exact P7 | exact P8 | exact P9 | exact P10 | exact P11 | exact P12 | exact P13 | exact P14 | exact P15 | exact P16 | exact P17 | exact P18 | exact P19 | exact P20 | exact P21 | exact P22 | exact P23) ?_
  simp only [List.cons_append, List.nil_append]
  have hlen : R.st.length = A.length + 1 := by rw [hy]; simp
  have hfu := hC.fu
  have hrg := ends_rng hi
  refine Spec_enter Tryz.func149 rfl Tryz.ntmps149 rfl ?_
  show SP _ _ _ _ _ [(0, _), (1, _), (2, _), (3, _), (4, _)] _
  refine SP_seq ?_
  refine SP_region ?_
  refine SPL_y (y_assign rfl) rfl ?_
  refine SPL_y (y_assign rfl) rfl ?_
  refine SPL_nil ?_
  refine thenP_n ?_
  refine SP_seq ?_
  refine SP_region ?_
  refine SPL_y (y_move rfl) rfl ?_
  refine SPL_y (y_move rfl) rfl ?_
  refine SPL_y (y_ia Tryz.underlying34 Tryz.sizeOf87 rfl rfl (by omega)) rfl ?_
  refine SPL_y (y_loads Tryz.isAgg87 Tryz.sizeOf87 rfl rfl (by repeat (first | exact flat_cellsE insV_len (i := i) rfl hi hci | apply Cells.tail))) rfl ?_
  refine SPL_y (y_move rfl) rfl ?_
  refine SPL_y (y_add rfl rfl (by omega)) rfl ?_
  refine SPL_one rfl (SP1_alloc Tryz.zeroValue87 rfl rfl ?_)
  intro b12
  refine SPL_one rfl (SP1_storeAll Tryz.sizeOf87 rfl rfl rfl rfl rfl (by first | exact U0 | exact U1 | exact U2 | exact U3 | exact U4 | exact U5 | exact U6 | exact U7 | exact U8 | exact U9 | exact U10 | exact U11 | exact U12 | exact U13 | exact U14 | exact U15 | exact U16 | exact U17 | exact U18 | exact U19 | exact U20 | exact U21 | exact U22 | exact U23) (by rfl) ?_)
  refine SPL_y (y_assign rfl) rfl ?_
  refine SPL_nil ?_
  refine thenP_n ?_
  refine SP_seq ?_
  refine SP_seq ?_
  refine SP_region ?_
  refine SPL_y (y_fa fld_87_0 rfl) rfl ?_
  refine SPL_y (y_load Tryz.isAgg3 rfl (by repeat (first | exact Cell.head rfl | apply Cell.tail))) rfl ?_
  refine SPL_y (y_eqlT rfl rfl hop) rfl ?_
  refine SPL_nil ?_
  refine thenP_n ?_
  refine SP_cond_t rfl ?_
  refine SP_seq ?_
  refine SP_region ?_
  refine SPL_y (y_move rfl) rfl ?_
  refine SPL_one rfl (SP1_call (rm_pay x (.pointer (some ⟨pb, 0, none⟩)) rv (.pointer (some ⟨kb, 0, none⟩)) E R s hm hpay hS.us hfu) Tryz.call155 rfl rfl (by repeat (first | exact Part.nil _ | (apply Part.cons; (first | exact P0 | exact P1 | exact P2 | exact P3 | exact P4 | exact P5 | exact P6 | exact P7 | exact P8 | exact P9 | exact P10 | exact P11 | exact P12 | exact P13 | exact P14 | exact P15 | exact P16 | exact P17 | exact P18 | exact P19 | exact P20 | exact P21 | exact P22 | exact P23)) | (apply Part.flat; simp only [List.cons_append, List.nil_append]) | (apply Part.nilc))) ?_)
  rintro v post H' ⟨s1, rfl, rfl, hm1⟩ hH
  try simp only [List.cons_append, List.nil_append] at hH
  subst hH
  refine SPL_y (y_assign rfl) rfl ?_
  refine SPL_nil ?_
  refine thenP_n ?_
  refine SP_seq ?_
  refine SP_seq ?_
  refine SP_region ?_
  refine SPL_y (y_move rfl) rfl ?_
  refine SPL_y (y_neqNo rfl rfl (by decide)) rfl ?_
  refine SPL_nil ?_
  refine thenP_n ?_
  refine SP_cond_f rfl ?_
  refine SP_skip ?_
  refine thenP_n ?_
  refine SP_seq ?_
  refine SP_region ?_
  refine SPL_y (y_move rfl) rfl ?_
  refine SPL_one rfl (SP1_call (rm_pop x (.pointer (some ⟨pb, 0, none⟩)) rv (.pointer (some ⟨kb, 0, none⟩)) E R.pay s1 hm1 A y hy 105 hw (by show R.st.length ≤ 1000000; omega)) Tryz.call156 rfl rfl (by repeat (first | exact Part.nil _ | (apply Part.cons; (first | exact P0 | exact P1 | exact P2 | exact P3 | exact P4 | exact P5 | exact P6 | exact P7 | exact P8 | exact P9 | exact P10 | exact P11 | exact P12 | exact P13 | exact P14 | exact P15 | exact P16 | exact P17 | exact P18 | exact P19 | exact P20 | exact P21 | exact P22 | exact P23)) | (apply Part.flat; simp only [List.cons_append, List.nil_append]) | (apply Part.nilc))) ?_)
  rintro v post H' ⟨s2, rfl, rfl, hm2⟩ hH
  try simp only [List.cons_append, List.nil_append] at hH
  subst hH
  refine SPL_y (y_move rfl) rfl ?_
  refine SPL_y (y_ext rfl rfl) rfl ?_
  refine SPL_y (y_ext rfl rfl) rfl ?_
  refine SPL_y (y_assign rfl) rfl ?_
  refine SPL_y (y_assign rfl) rfl ?_
  refine SPL_nil ?_
  refine thenP_n ?_
  refine SP_seq ?_
  refine SP_seq ?_
  refine SP_region ?_
  refine SPL_y (y_move rfl) rfl ?_
  refine SPL_y (y_not_t rfl) rfl ?_
  refine SPL_nil ?_
  refine thenP_n ?_
  refine SP_cond_f rfl ?_
  refine SP_skip ?_
  refine thenP_n ?_
  refine SP_seq ?_
  refine SP_region ?_
  refine SPL_y (y_move rfl) rfl ?_
  refine SPL_ifn (y_eql rfl rfl) rfl ?_ ?_
  · intro h9_1
    refine SPL_nil ?_
    refine thenP_n ?_
    refine SP_cond_f rfl ?_
    refine SP_skip ?_
    refine thenP_n ?_
    refine SP_seq ?_
    have hb1 := hb
    rw [if_neg h9_1] at hb1
    obtain ⟨sa1, sc1, ss1, rfl, hst1⟩ := hm2
    refine SP_openAt [blk x 119 (instR (.pointer (some ⟨pb, 0, none⟩)) rv (.pointer (some ⟨kb, 0, none⟩)) (.slice sa1 ({ R.pay with st := A } : RS).st.length sc1) E ({ R.pay with st := A } : RS)), ss1] (by first | exact P0 | exact P1 | exact P2 | exact P3 | exact P4 | exact P5 | exact P6 | exact P7 | exact P8 | exact P9 | exact P10 | exact P11 | exact P12 | exact P13 | exact P14 | exact P15 | exact P16 | exact P17 | exact P18 | exact P19 | exact P20 | exact P21 | exact P22 | exact P23) ?_
    simp only [List.cons_append, List.nil_append, instR]
    refine SP_region ?_
    refine SPL_y (y_move rfl) rfl ?_
    refine SPL_y (y_nil rfl) rfl ?_
    refine SPL_y (y_fa fld_119_3 rfl) rfl ?_
    refine SPL_y (y_load Tryz.isAgg35 rfl (by repeat (first | exact Cell.head rfl | apply Cell.tail))) rfl ?_
    refine SPL_y (y_len_l Tryz.underlying35 rfl) rfl ?_
    refine SPL_y (y_assign rfl) rfl ?_
    refine SPL_y (y_assign rfl) rfl ?_
    refine SPL_nil ?_
    refine thenP_n ?_
    refine SP_seq ?_
    refine SP_seq ?_
    refine SP_region ?_
    refine SPL_y (y_fa fld_87_1 rfl) rfl ?_
    refine SPL_y (y_load Tryz.isAgg3 rfl (by repeat (first | exact Cell.head rfl | apply Cell.tail))) rfl ?_
    refine SPL_ifn (y_neq rfl rfl) rfl ?_ ?_
    · intro h15_2
      refine SPL_y (y_move rfl) rfl ?_
      refine SPL_gn rfl rfl rfl rfl ?_
      refine SPL_gn rfl rfl rfl rfl ?_
      refine SPL_gn rfl rfl rfl rfl ?_
      refine SPL_y (y_pick_f rfl rfl) rfl ?_
      refine SPL_nil ?_
      refine thenP_n ?_
      refine SP_cond_f rfl ?_
      refine SP_skip ?_
      refine thenP_n ?_
      refine SP_block ?_
      refine SP_loop (G := Nat × RS × List W × Seg × Seg × Seg) (fun z => z.1) (fun z => [(0, pvp x), (1, .slice (some ⟨bs, 0, none⟩) src.length sc), (3, .slice la loc.length lc), (4, I depth), (12, pvp b12), (13, I (i + 1 : Nat)), (19, I (A.length : Nat)), (20, I (0 : Nat))]) (fun z => [z.2.2.2.1, z.2.2.2.2.1, z.2.2.2.2.2, sp, List.flatten [s6, blk bs 87 (codeV src ++ sps), s7], blk b12 87 (insV c)]) (fun z => z.1 ≤ n ∧ isR x (.pointer (some ⟨pb, 0, none⟩)) rv (.pointer (some ⟨kb, 0, none⟩)) E z.2.1 z.2.2.2.1 ∧ Arr 110 2 la loc.length lc (z.2.2.1.flatMap wv) z.2.2.2.2.1 ∧ isMm kb z.2.1.mem z.2.2.2.2.2 ∧ runM E z.1 ⟨src, i + 1, true, 3, A.length, 0, depth⟩ z.2.1 z.2.2.1 = some r) ((n, ({ R.pay with st := A } : RS), loc, List.flatten [blk x 119 (instR (.pointer (some ⟨pb, 0, none⟩)) rv (.pointer (some ⟨kb, 0, none⟩)) (.slice sa1 ({ R.pay with st := A } : RS).st.length sc1) E ({ R.pay with st := A } : RS)), ss1], sl, sk)) (⟨Nat.le_refl _, (⟨sa1, sc1, ss1, rfl, hst1⟩ : isR x (.pointer (some ⟨pb, 0, none⟩)) rv (.pointer (some ⟨kb, 0, none⟩)) E ({ R.pay with st := A } : RS) (List.flatten [blk x 119 (instR (.pointer (some ⟨pb, 0, none⟩)) rv (.pointer (some ⟨kb, 0, none⟩)) (.slice sa1 ({ R.pay with st := A } : RS).st.length sc1) E ({ R.pay with st := A } : RS)), ss1])), hl, hk, by dsimp only; rw [← hb1]; rw [if_neg h15_2]⟩) (by repeat (first | exact Sub.nil _ | refine Sub.cons rfl ?_)) (by repeat (first | exact Part.nil _ | (apply Part.cons; (first | exact P0 | exact P1 | exact P2 | exact P3 | exact P4 | exact P5 | exact P6 | exact P7 | exact P8 | exact P9 | exact P10 | exact P11 | exact P12 | exact P13 | exact P14 | exact P15 | exact P16 | exact P17 | exact P18 | exact P19 | exact P20 | exact P21 | exact P22 | exact P23)) | (apply Part.flat; simp only [List.cons_append, List.nil_append]) | (apply Part.nilc))) ?_
      rintro ⟨k, R9, loc9, s9, sl9, sk9⟩ ⟨hkn, hm9, hl9, hk9, hr9⟩
      dsimp only at hkn hm9 hl9 hk9 hr9 ⊢
      have hll := flat_inj hl9
      obtain ⟨k, rfl⟩ : ∃ k', k = k' + 1 := by
        cases k with
        | zero => cases hr9
        | succ k' => exact ⟨k', rfl⟩
      obtain ⟨hS9, ⟨qb, qe, Q, ql⟩, hq, hcase⟩ := task_loop hr9
      dsimp only at hcase
      have hseq := hQ k (by omega) R9 s9 la lc loc9 sl9 sk9 src (some ⟨bs, 0, none⟩) sc (i + 1) (3) depth (A.length) (0) (qb, qe, Q, ql) hm9 (by rw [hll]; exact hl9) (by omega) hk9 hsm hAt0 hd hq
      rw [hll] at hseq
      refine SP_block ?_
      refine SP_seq ?_
      refine SP_region ?_
      refine SPL_y (y_move rfl) rfl ?_
      refine SPL_y (y_move rfl) rfl ?_
      refine SPL_y (y_move rfl) rfl ?_
      refine SPL_y (y_move rfl) rfl ?_
      refine SPL_y (y_move rfl) rfl ?_
      refine SPL_one rfl (SP1_call (hseq) Tryz.call140 rfl rfl (by repeat (first | exact Part.nil _ | (apply Part.cons; (first | exact P0 | exact P1 | exact P2 | exact P3 | exact P4 | exact P5 | exact P6 | exact P7 | exact P8 | exact P9 | exact P10 | exact P11 | exact P12 | exact P13 | exact P14 | exact P15 | exact P16 | exact P17 | exact P18 | exact P19 | exact P20 | exact P21 | exact P22 | exact P23)) | (apply Part.flat; simp only [List.cons_append, List.nil_append]) | (apply Part.nilc))) ?_)
      rintro v post H' ⟨s10, sl10, sk10, st', rfl, rfl, hm10, hst', hl10, hk10⟩ hH
      try simp only [List.cons_append, List.nil_append] at hH
      subst hH
      dsimp only at hm10 hst' hl10 hk10 ⊢
      refine SPL_y (y_move rfl) rfl ?_
      refine SPL_y (y_ext rfl rfl) rfl ?_
      refine SPL_y (y_ext rfl rfl) rfl ?_
      refine SPL_y (y_assign rfl) rfl ?_
      refine SPL_y (y_assign rfl) rfl ?_
      refine SPL_nil ?_
      refine thenP_n ?_
      refine SP_seq ?_
      refine SP_seq ?_
      refine SP_region ?_
      refine SPL_y (y_move rfl) rfl ?_
      refine SPL_if (y_neq rfl rfl) rfl ?_ ?_
      · intro h18_1
        refine SPL_y (y_move rfl) rfl ?_
        refine SPL_gn rfl rfl rfl rfl ?_
        refine SPL_gn rfl rfl rfl rfl ?_
        refine SPL_y (y_pick_t rfl rfl) rfl ?_
        refine SPL_nil ?_
        refine thenP_n ?_
        refine SP_cond_t rfl ?_
        refine SP_seq ?_
        refine SP_region ?_
        refine SPL_y (y_move rfl) rfl ?_
        refine SPL_y (y_move rfl) rfl ?_
        refine SPL_y (y_assign rfl) rfl ?_
        refine SPL_y (y_assign rfl) rfl ?_
        refine SPL_nil ?_
        refine thenP_n ?_
        refine SP_ret ?_
        refine thenP_ret (inBlockP_ret (thenP_ret (inBlockP_ret (bodyP_ret (H' := [s10, sl10, sk10, sp, List.flatten [s6, blk bs 87 (codeV src ++ sps), s7]]) (Res2 rfl rfl rfl) (by repeat (first | exact Part.nil _ | (apply Part.cons; (first | exact P0 | exact P1 | exact P2 | exact P3 | exact P4 | exact P5 | exact P6 | exact P7 | exact P8 | exact P9 | exact P10 | exact P11 | exact P12 | exact P13 | exact P14 | exact P15 | exact P16 | exact P17 | exact P18 | exact P19 | exact P20 | exact P21 | exact P22 | exact P23)) | (apply Part.flat; simp only [List.cons_append, List.nil_append]) | (apply Part.nilc))) ?_))))
        obtain ⟨_, rfl⟩ | ⟨h1, _⟩ | ⟨h1, h2, _⟩ := hcase
        · exact ⟨_, _, _, st', rfl, rfl, hm10, hst', hl10, hk10⟩
        · exact absurd (.inl h18_1) h1
        · exact absurd h1 h18_1
      intro h18_1
      refine SPL_y (y_move rfl) rfl ?_
      refine SPL_gy rfl rfl ?_
      refine SPL_y (y_move rfl) rfl ?_
      refine SPL_gy rfl rfl ?_
      refine SPL_if (y_lss rfl rfl) rfl ?_ ?_
      · intro h18_4
        refine SPL_y (y_pick_f rfl rfl) rfl ?_
        refine SPL_nil ?_
        refine thenP_n ?_
        refine SP_cond_t rfl ?_
        refine SP_seq ?_
        refine SP_region ?_
        refine SPL_y (y_move rfl) rfl ?_
        refine SPL_y (y_move rfl) rfl ?_
        refine SPL_y (y_assign rfl) rfl ?_
        refine SPL_y (y_assign rfl) rfl ?_
        refine SPL_nil ?_
        refine thenP_n ?_
        refine SP_ret ?_
        refine thenP_ret (inBlockP_ret (thenP_ret (inBlockP_ret (bodyP_ret (H' := [s10, sl10, sk10, sp, List.flatten [s6, blk bs 87 (codeV src ++ sps), s7]]) (Res2 rfl rfl rfl) (by repeat (first | exact Part.nil _ | (apply Part.cons; (first | exact P0 | exact P1 | exact P2 | exact P3 | exact P4 | exact P5 | exact P6 | exact P7 | exact P8 | exact P9 | exact P10 | exact P11 | exact P12 | exact P13 | exact P14 | exact P15 | exact P16 | exact P17 | exact P18 | exact P19 | exact P20 | exact P21 | exact P22 | exact P23)) | (apply Part.flat; simp only [List.cons_append, List.nil_append]) | (apply Part.nilc))) ?_))))
        obtain ⟨_, rfl⟩ | ⟨h1, _⟩ | ⟨h1, h2, _⟩ := hcase
        · exact ⟨_, _, _, st', rfl, rfl, hm10, hst', hl10, hk10⟩
        · exact absurd (.inr h18_4) h1
        · omega
      intro h18_4
      refine SPL_y (y_pick_f rfl rfl) rfl ?_
      refine SPL_nil ?_
      refine thenP_n ?_
      refine SP_cond_f rfl ?_
      refine SP_skip ?_
      refine thenP_n ?_
      refine SP_seq ?_
      refine SP_seq ?_
      refine SP_region ?_
      refine SPL_y (y_move rfl) rfl ?_
      refine SPL_if (y_gtr rfl rfl) rfl ?_ ?_
      · intro h20_1
        refine SPL_nil ?_
        refine thenP_n ?_
        refine SP_cond_t rfl ?_
        refine SP_seq ?_
        obtain ⟨h1, _⟩ | ⟨_, hb1, hb2, rfl⟩ | ⟨_, h1, _⟩ := hcase
        · rcases h1 with h1 | h1
          · exact absurd h1 h18_1
          · exact absurd h1 h18_4
        rotate_left
        · omega
        refine SP_region ?_
        refine SPL_y (y_move rfl) rfl ?_
        refine SPL_y (y_sub rfl rfl (by omega)) rfl ?_
        refine SPL_y (y_assign rfl) rfl ?_
        refine SPL_y (y_assign rfl) rfl ?_
        refine SPL_nil ?_
        refine thenP_n ?_
        refine SP_ret ?_
        refine thenP_ret (inBlockP_ret (thenP_ret (inBlockP_ret (bodyP_ret (H' := [s10, sl10, sk10, sp, List.flatten [s6, blk bs 87 (codeV src ++ sps), s7]]) (Res2 rfl rfl rfl) (by repeat (first | exact Part.nil _ | (apply Part.cons; (first | exact P0 | exact P1 | exact P2 | exact P3 | exact P4 | exact P5 | exact P6 | exact P7 | exact P8 | exact P9 | exact P10 | exact P11 | exact P12 | exact P13 | exact P14 | exact P15 | exact P16 | exact P17 | exact P18 | exact P19 | exact P20 | exact P21 | exact P22 | exact P23)) | (apply Part.flat; simp only [List.cons_append, List.nil_append]) | (apply Part.nilc))) ?_))))
        obtain rfl : qe = 0 := Decidable.not_not.1 h18_1
        exact ⟨_, _, _, st', rfl, rfl, hm10, hst', hl10, hk10⟩
      intro h20_1
      refine SPL_nil ?_
      refine thenP_n ?_
      refine SP_cond_f rfl ?_
      refine SP_skip ?_
      refine thenP_n ?_
      refine SP_seq ?_
      refine SP_seq ?_
      obtain ⟨h1, _⟩ | ⟨_, h1, _⟩ | ⟨hq0, hb0, hle, hbd, hcase4⟩ := hcase
      · rcases h1 with h1 | h1
        · exact absurd h1 h18_1
        · exact absurd h1 h18_4
      · exact absurd h1 h20_1
      obtain rfl : qe = 0 := hq0
      obtain rfl : st' = Q.st := hst' rfl
      have hm10 : isR x (.pointer (some ⟨pb, 0, none⟩)) rv (.pointer (some ⟨kb, 0, none⟩)) E Q s10 := hm10
      refine SP_region ?_
      refine SPL_y (y_move rfl) rfl ?_
      refine SPL_y (y_move rfl) rfl ?_
      refine SPL_y (y_move rfl) rfl ?_
      refine SPL_one rfl (SP1_call (rm_cutN x (.pointer (some ⟨pb, 0, none⟩)) rv (.pointer (some ⟨kb, 0, none⟩)) E Q s10 hm10 (A.length) (0) hle hbd) Tryz.call141 rfl rfl (by repeat (first | exact Part.nil _ | (apply Part.cons; (first | exact P0 | exact P1 | exact P2 | exact P3 | exact P4 | exact P5 | exact P6 | exact P7 | exact P8 | exact P9 | exact P10 | exact P11 | exact P12 | exact P13 | exact P14 | exact P15 | exact P16 | exact P17 | exact P18 | exact P19 | exact P20 | exact P21 | exact P22 | exact P23)) | (apply Part.flat; simp only [List.cons_append, List.nil_append]) | (apply Part.nilc))) ?_)
      rintro v post H' ⟨s11, rfl, rfl, hm11⟩ hH
      try simp only [List.cons_append, List.nil_append] at hH
      subst hH
      refine SPL_y (y_not_t rfl) rfl ?_
      refine SPL_nil ?_
      refine thenP_n ?_
      refine SP_cond_f rfl ?_
      refine SP_skip ?_
      refine thenP_n ?_
      refine SP_seq ?_
      refine SP_region ?_
      refine SPL_y (y_fa fld_87_0 rfl) rfl ?_
      refine SPL_y (y_load Tryz.isAgg3 rfl (by repeat (first | exact Cell.head rfl | apply Cell.tail))) rfl ?_
      refine SPL_y (y_neqYes rfl rfl (by omega)) rfl ?_
      refine SPL_nil ?_
      refine thenP_n ?_
      refine SP_cond_t rfl ?_
      refine SP_seq ?_
      refine SP_region ?_
      refine SPL_y (y_assign rfl) rfl ?_
      refine SPL_y (y_assign rfl) rfl ?_
      refine SPL_nil ?_
      refine thenP_n ?_
      refine SP_ret ?_
      refine inBlockP_ret (thenP_ret (inBlockP_ret (bodyP_ret (H' := [s11, sl10, sk10, sp, List.flatten [s6, blk bs 87 (codeV src ++ sps), s7]]) (Res2 rfl rfl rfl) (by repeat (first | exact Part.nil _ | (apply Part.cons; (first | exact P0 | exact P1 | exact P2 | exact P3 | exact P4 | exact P5 | exact P6 | exact P7 | exact P8 | exact P9 | exact P10 | exact P11 | exact P12 | exact P13 | exact P14 | exact P15 | exact P16 | exact P17 | exact P18 | exact P19 | exact P20 | exact P21 | exact P22 | exact P23)) | (apply Part.flat; simp only [List.cons_append, List.nil_append]) | (apply Part.nilc))) ?_)))
      obtain ⟨h1, _⟩ | ⟨_, rfl⟩ := hcase4
      · exact absurd h1 (by decide)
      · exact ⟨_, _, _, _, rfl, rfl, hm11, fun _ => rfl, hl10, hk10⟩
    intro h15_2
    refine SPL_y (y_move rfl) rfl ?_
    refine SPL_gy rfl rfl ?_
    refine SPL_y (y_fa fld_87_0 rfl) rfl ?_
    refine SPL_gy rfl rfl ?_
    refine SPL_y (y_load Tryz.isAgg3 rfl (by repeat (first | exact Cell.head rfl | apply Cell.tail))) rfl ?_
    refine SPL_gy rfl rfl ?_
    refine SPL_y (y_neqYes rfl rfl (by omega)) rfl ?_
    refine SPL_y (y_pick_t rfl rfl) rfl ?_
    refine SPL_nil ?_
    refine thenP_n ?_
    refine SP_cond_t rfl ?_
    refine SP_region ?_
    refine SPL_y (y_assign rfl) rfl ?_
    refine SPL_nil ?_
    refine thenP_n ?_
    refine SP_block ?_
    refine SP_loop (G := Nat × RS × List W × Seg × Seg × Seg) (fun z => z.1) (fun z => [(0, pvp x), (1, .slice (some ⟨bs, 0, none⟩) src.length sc), (3, .slice la loc.length lc), (4, I depth), (12, pvp b12), (13, I (i + 1 : Nat)), (19, I (A.length : Nat)), (20, I (1 : Nat))]) (fun z => [z.2.2.2.1, z.2.2.2.2.1, z.2.2.2.2.2, sp, List.flatten [s6, blk bs 87 (codeV src ++ sps), s7], blk b12 87 (insV c)]) (fun z => z.1 ≤ n ∧ isR x (.pointer (some ⟨pb, 0, none⟩)) rv (.pointer (some ⟨kb, 0, none⟩)) E z.2.1 z.2.2.2.1 ∧ Arr 110 2 la loc.length lc (z.2.2.1.flatMap wv) z.2.2.2.2.1 ∧ isMm kb z.2.1.mem z.2.2.2.2.2 ∧ runM E z.1 ⟨src, i + 1, true, 3, A.length, 1, depth⟩ z.2.1 z.2.2.1 = some r) ((n, ({ R.pay with st := A } : RS), loc, List.flatten [blk x 119 (instR (.pointer (some ⟨pb, 0, none⟩)) rv (.pointer (some ⟨kb, 0, none⟩)) (.slice sa1 ({ R.pay with st := A } : RS).st.length sc1) E ({ R.pay with st := A } : RS)), ss1], sl, sk)) (⟨Nat.le_refl _, (⟨sa1, sc1, ss1, rfl, hst1⟩ : isR x (.pointer (some ⟨pb, 0, none⟩)) rv (.pointer (some ⟨kb, 0, none⟩)) E ({ R.pay with st := A } : RS) (List.flatten [blk x 119 (instR (.pointer (some ⟨pb, 0, none⟩)) rv (.pointer (some ⟨kb, 0, none⟩)) (.slice sa1 ({ R.pay with st := A } : RS).st.length sc1) E ({ R.pay with st := A } : RS)), ss1])), hl, hk, by dsimp only; rw [← hb1]; rw [if_pos h15_2]⟩) (by repeat (first | exact Sub.nil _ | refine Sub.cons rfl ?_)) (by repeat (first | exact Part.nil _ | (apply Part.cons; (first | exact P0 | exact P1 | exact P2 | exact P3 | exact P4 | exact P5 | exact P6 | exact P7 | exact P8 | exact P9 | exact P10 | exact P11 | exact P12 | exact P13 | exact P14 | exact P15 | exact P16 | exact P17 | exact P18 | exact P19 | exact P20 | exact P21 | exact P22 | exact P23)) | (apply Part.flat; simp only [List.cons_append, List.nil_append]) | (apply Part.nilc))) ?_
    rintro ⟨k, R9, loc9, s9, sl9, sk9⟩ ⟨hkn, hm9, hl9, hk9, hr9⟩
    dsimp only at hkn hm9 hl9 hk9 hr9 ⊢
    have hll := flat_inj hl9
    obtain ⟨k, rfl⟩ : ∃ k', k = k' + 1 := by
      cases k with
      | zero => cases hr9
      | succ k' => exact ⟨k', rfl⟩
    obtain ⟨hS9, ⟨qb, qe, Q, ql⟩, hq, hcase⟩ := task_loop hr9
    dsimp only at hcase
    have hseq := hQ k (by omega) R9 s9 la lc loc9 sl9 sk9 src (some ⟨bs, 0, none⟩) sc (i + 1) (3) depth (A.length) (1) (qb, qe, Q, ql) hm9 (by rw [hll]; exact hl9) (by omega) hk9 hsm hAt0 hd hq
    rw [hll] at hseq
    refine SP_block ?_
    refine SP_seq ?_
    refine SP_region ?_
    refine SPL_y (y_move rfl) rfl ?_
    refine SPL_y (y_move rfl) rfl ?_
    refine SPL_y (y_move rfl) rfl ?_
    refine SPL_y (y_move rfl) rfl ?_
    refine SPL_y (y_move rfl) rfl ?_
    refine SPL_one rfl (SP1_call (hseq) Tryz.call140 rfl rfl (by repeat (first | exact Part.nil _ | (apply Part.cons; (first | exact P0 | exact P1 | exact P2 | exact P3 | exact P4 | exact P5 | exact P6 | exact P7 | exact P8 | exact P9 | exact P10 | exact P11 | exact P12 | exact P13 | exact P14 | exact P15 | exact P16 | exact P17 | exact P18 | exact P19 | exact P20 | exact P21 | exact P22 | exact P23)) | (apply Part.flat; simp only [List.cons_append, List.nil_append]) | (apply Part.nilc))) ?_)
    rintro v post H' ⟨s10, sl10, sk10, st', rfl, rfl, hm10, hst', hl10, hk10⟩ hH
    try simp only [List.cons_append, List.nil_append] at hH
    subst hH
    dsimp only at hm10 hst' hl10 hk10 ⊢
    refine SPL_y (y_move rfl) rfl ?_
    refine SPL_y (y_ext rfl rfl) rfl ?_
    refine SPL_y (y_ext rfl rfl) rfl ?_
    refine SPL_y (y_assign rfl) rfl ?_
    refine SPL_y (y_assign rfl) rfl ?_
    refine SPL_nil ?_
    refine thenP_n ?_
    refine SP_seq ?_
    refine SP_seq ?_
    refine SP_region ?_
    refine SPL_y (y_move rfl) rfl ?_
    refine SPL_if (y_neq rfl rfl) rfl ?_ ?_
    · intro h18_1
      refine SPL_y (y_move rfl) rfl ?_
      refine SPL_gn rfl rfl rfl rfl ?_
      refine SPL_gn rfl rfl rfl rfl ?_
      refine SPL_y (y_pick_t rfl rfl) rfl ?_
      refine SPL_nil ?_
      refine thenP_n ?_
      refine SP_cond_t rfl ?_
      refine SP_seq ?_
      refine SP_region ?_
      refine SPL_y (y_move rfl) rfl ?_
      refine SPL_y (y_move rfl) rfl ?_
      refine SPL_y (y_assign rfl) rfl ?_
      refine SPL_y (y_assign rfl) rfl ?_
      refine SPL_nil ?_
      refine thenP_n ?_
      refine SP_ret ?_
      refine thenP_ret (inBlockP_ret (thenP_ret (inBlockP_ret (bodyP_ret (H' := [s10, sl10, sk10, sp, List.flatten [s6, blk bs 87 (codeV src ++ sps), s7]]) (Res2 rfl rfl rfl) (by repeat (first | exact Part.nil _ | (apply Part.cons; (first | exact P0 | exact P1 | exact P2 | exact P3 | exact P4 | exact P5 | exact P6 | exact P7 | exact P8 | exact P9 | exact P10 | exact P11 | exact P12 | exact P13 | exact P14 | exact P15 | exact P16 | exact P17 | exact P18 | exact P19 | exact P20 | exact P21 | exact P22 | exact P23)) | (apply Part.flat; simp only [List.cons_append, List.nil_append]) | (apply Part.nilc))) ?_))))
      obtain ⟨_, rfl⟩ | ⟨h1, _⟩ | ⟨h1, h2, _⟩ := hcase
      · exact ⟨_, _, _, st', rfl, rfl, hm10, hst', hl10, hk10⟩
      · exact absurd (.inl h18_1) h1
      · exact absurd h1 h18_1
    intro h18_1
    refine SPL_y (y_move rfl) rfl ?_
    refine SPL_gy rfl rfl ?_
    refine SPL_y (y_move rfl) rfl ?_
    refine SPL_gy rfl rfl ?_
    refine SPL_if (y_lss rfl rfl) rfl ?_ ?_
    · intro h18_4
      refine SPL_y (y_pick_f rfl rfl) rfl ?_
      refine SPL_nil ?_
      refine thenP_n ?_
      refine SP_cond_t rfl ?_
      refine SP_seq ?_
      refine SP_region ?_
      refine SPL_y (y_move rfl) rfl ?_
      refine SPL_y (y_move rfl) rfl ?_
      refine SPL_y (y_assign rfl) rfl ?_
      refine SPL_y (y_assign rfl) rfl ?_
      refine SPL_nil ?_
      refine thenP_n ?_
      refine SP_ret ?_
      refine thenP_ret (inBlockP_ret (thenP_ret (inBlockP_ret (bodyP_ret (H' := [s10, sl10, sk10, sp, List.flatten [s6, blk bs 87 (codeV src ++ sps), s7]]) (Res2 rfl rfl rfl) (by repeat (first | exact Part.nil _ | (apply Part.cons; (first | exact P0 | exact P1 | exact P2 | exact P3 | exact P4 | exact P5 | exact P6 | exact P7 | exact P8 | exact P9 | exact P10 | exact P11 | exact P12 | exact P13 | exact P14 | exact P15 | exact P16 | exact P17 | exact P18 | exact P19 | exact P20 | exact P21 | exact P22 | exact P23)) | (apply Part.flat; simp only [List.cons_append, List.nil_append]) | (apply Part.nilc))) ?_))))
      obtain ⟨_, rfl⟩ | ⟨h1, _⟩ | ⟨h1, h2, _⟩ := hcase
      · exact ⟨_, _, _, st', rfl, rfl, hm10, hst', hl10, hk10⟩
      · exact absurd (.inr h18_4) h1
      · omega
    intro h18_4
    refine SPL_y (y_pick_f rfl rfl) rfl ?_
    refine SPL_nil ?_
    refine thenP_n ?_
    refine SP_cond_f rfl ?_
    refine SP_skip ?_
    refine thenP_n ?_
    refine SP_seq ?_
    refine SP_seq ?_
    refine SP_region ?_
    refine SPL_y (y_move rfl) rfl ?_
    refine SPL_if (y_gtr rfl rfl) rfl ?_ ?_
    · intro h20_1
      refine SPL_nil ?_
      refine thenP_n ?_
      refine SP_cond_t rfl ?_
      refine SP_seq ?_
      obtain ⟨h1, _⟩ | ⟨_, hb1, hb2, rfl⟩ | ⟨_, h1, _⟩ := hcase
      · rcases h1 with h1 | h1
        · exact absurd h1 h18_1
        · exact absurd h1 h18_4
      rotate_left
      · omega
      refine SP_region ?_
      refine SPL_y (y_move rfl) rfl ?_
      refine SPL_y (y_sub rfl rfl (by omega)) rfl ?_
      refine SPL_y (y_assign rfl) rfl ?_
      refine SPL_y (y_assign rfl) rfl ?_
      refine SPL_nil ?_
      refine thenP_n ?_
      refine SP_ret ?_
      refine thenP_ret (inBlockP_ret (thenP_ret (inBlockP_ret (bodyP_ret (H' := [s10, sl10, sk10, sp, List.flatten [s6, blk bs 87 (codeV src ++ sps), s7]]) (Res2 rfl rfl rfl) (by repeat (first | exact Part.nil _ | (apply Part.cons; (first | exact P0 | exact P1 | exact P2 | exact P3 | exact P4 | exact P5 | exact P6 | exact P7 | exact P8 | exact P9 | exact P10 | exact P11 | exact P12 | exact P13 | exact P14 | exact P15 | exact P16 | exact P17 | exact P18 | exact P19 | exact P20 | exact P21 | exact P22 | exact P23)) | (apply Part.flat; simp only [List.cons_append, List.nil_append]) | (apply Part.nilc))) ?_))))
      obtain rfl : qe = 0 := Decidable.not_not.1 h18_1
      exact ⟨_, _, _, st', rfl, rfl, hm10, hst', hl10, hk10⟩
    intro h20_1
    refine SPL_nil ?_
    refine thenP_n ?_
    refine SP_cond_f rfl ?_
    refine SP_skip ?_
    refine thenP_n ?_
    refine SP_seq ?_
    refine SP_seq ?_
    obtain ⟨h1, _⟩ | ⟨_, h1, _⟩ | ⟨hq0, hb0, hle, hbd, hcase4⟩ := hcase
    · rcases h1 with h1 | h1
      · exact absurd h1 h18_1
      · exact absurd h1 h18_4
    · exact absurd h1 h20_1
    obtain rfl : qe = 0 := hq0
    obtain rfl : st' = Q.st := hst' rfl
    have hm10 : isR x (.pointer (some ⟨pb, 0, none⟩)) rv (.pointer (some ⟨kb, 0, none⟩)) E Q s10 := hm10
    refine SP_region ?_
    refine SPL_y (y_move rfl) rfl ?_
    refine SPL_y (y_move rfl) rfl ?_
    refine SPL_y (y_move rfl) rfl ?_
    refine SPL_one rfl (SP1_call (rm_cutN x (.pointer (some ⟨pb, 0, none⟩)) rv (.pointer (some ⟨kb, 0, none⟩)) E Q s10 hm10 (A.length) (1) hle hbd) Tryz.call141 rfl rfl (by repeat (first | exact Part.nil _ | (apply Part.cons; (first | exact P0 | exact P1 | exact P2 | exact P3 | exact P4 | exact P5 | exact P6 | exact P7 | exact P8 | exact P9 | exact P10 | exact P11 | exact P12 | exact P13 | exact P14 | exact P15 | exact P16 | exact P17 | exact P18 | exact P19 | exact P20 | exact P21 | exact P22 | exact P23)) | (apply Part.flat; simp only [List.cons_append, List.nil_append]) | (apply Part.nilc))) ?_)
    rintro v post H' ⟨s11, rfl, rfl, hm11⟩ hH
    try simp only [List.cons_append, List.nil_append] at hH
    subst hH
    refine SPL_y (y_not_t rfl) rfl ?_
    refine SPL_nil ?_
    refine thenP_n ?_
    refine SP_cond_f rfl ?_
    refine SP_skip ?_
    refine thenP_n ?_
    refine SP_seq ?_
    refine SP_region ?_
    refine SPL_y (y_fa fld_87_0 rfl) rfl ?_
    refine SPL_y (y_load Tryz.isAgg3 rfl (by repeat (first | exact Cell.head rfl | apply Cell.tail))) rfl ?_
    refine SPL_y (y_neqYes rfl rfl (by omega)) rfl ?_
    refine SPL_nil ?_
    refine thenP_n ?_
    refine SP_cond_t rfl ?_
    refine SP_seq ?_
    refine SP_region ?_
    refine SPL_y (y_assign rfl) rfl ?_
    refine SPL_y (y_assign rfl) rfl ?_
    refine SPL_nil ?_
    refine thenP_n ?_
    refine SP_ret ?_
    refine inBlockP_ret (thenP_ret (inBlockP_ret (bodyP_ret (H' := [s11, sl10, sk10, sp, List.flatten [s6, blk bs 87 (codeV src ++ sps), s7]]) (Res2 rfl rfl rfl) (by repeat (first | exact Part.nil _ | (apply Part.cons; (first | exact P0 | exact P1 | exact P2 | exact P3 | exact P4 | exact P5 | exact P6 | exact P7 | exact P8 | exact P9 | exact P10 | exact P11 | exact P12 | exact P13 | exact P14 | exact P15 | exact P16 | exact P17 | exact P18 | exact P19 | exact P20 | exact P21 | exact P22 | exact P23)) | (apply Part.flat; simp only [List.cons_append, List.nil_append]) | (apply Part.nilc))) ?_)))
    obtain ⟨h1, _⟩ | ⟨_, rfl⟩ := hcase4
    · exact absurd h1 (by decide)
    · exact ⟨_, _, _, _, rfl, rfl, hm11, fun _ => rfl, hl10, hk10⟩
  intro h9_1
  refine SPL_nil ?_
  refine thenP_n ?_
  refine SP_cond_t rfl ?_
  refine SP_seq ?_
  refine SP_region ?_
  refine SPL_y (y_move rfl) rfl ?_
  refine SPL_y (y_move rfl) rfl ?_
  refine SPL_one rfl (SP1_call (pm_Ends (some ⟨bs, 0, none⟩) sc src _ hs i hi (by omega)) Tryz.call93 rfl rfl (by repeat (first | exact Part.nil _ | (apply Part.cons; (first | exact P0 | exact P1 | exact P2 | exact P3 | exact P4 | exact P5 | exact P6 | exact P7 | exact P8 | exact P9 | exact P10 | exact P11 | exact P12 | exact P13 | exact P14 | exact P15 | exact P16 | exact P17 | exact P18 | exact P19 | exact P20 | exact P21 | exact P22 | exact P23)) | (apply Part.flat; simp only [List.cons_append, List.nil_append]) | (apply Part.nilc))) ?_)
  rintro v post H' ⟨rfl, rfl⟩ hH
  try simp only [List.cons_append, List.nil_append] at hH
  subst hH
  refine SPL_y (y_move rfl) rfl ?_
  refine SPL_y (y_ext rfl rfl) rfl ?_
  refine SPL_y (y_ext rfl rfl) rfl ?_
  refine SPL_y (y_assign rfl) rfl ?_
  refine SPL_y (y_assign rfl) rfl ?_
  refine SPL_nil ?_
  refine thenP_n ?_
  refine SP_seq ?_
  refine SP_seq ?_
  refine SP_region ?_
  refine SPL_y (y_move rfl) rfl ?_
  refine SPL_if (y_lss rfl rfl) rfl ?_ ?_
  · intro h11_1
    refine SPL_nil ?_
    refine thenP_n ?_
    refine SP_cond_t rfl ?_
    refine SP_seq ?_
    refine SP_region ?_
    refine SPL_y (y_assign rfl) rfl ?_
    refine SPL_y (y_assign rfl) rfl ?_
    refine SPL_nil ?_
    refine thenP_n ?_
    refine SP_ret ?_
    refine thenP_ret (thenP_ret (bodyP_ret (H' := [s2, sl, sk, sp, List.flatten [s6, blk bs 87 (codeV src ++ sps), s7]]) (Res2 rfl rfl rfl) (by repeat (first | exact Part.nil _ | (apply Part.cons; (first | exact P0 | exact P1 | exact P2 | exact P3 | exact P4 | exact P5 | exact P6 | exact P7 | exact P8 | exact P9 | exact P10 | exact P11 | exact P12 | exact P13 | exact P14 | exact P15 | exact P16 | exact P17 | exact P18 | exact P19 | exact P20 | exact P21 | exact P22 | exact P23)) | (apply Part.flat; simp only [List.cons_append, List.nil_append]) | (apply Part.nilc))) ?_))
    rw [if_pos h9_1, if_pos h11_1] at hb
    simp only [Option.some.injEq] at hb
    subst hb
    exact ⟨_, _, _, _, rfl, rfl, hm2, fun _ => rfl, hl, hk⟩
  intro h11_1
  refine SPL_nil ?_
  refine thenP_n ?_
  refine SP_cond_f rfl ?_
  refine SP_skip ?_
  refine thenP_n ?_
  obtain ⟨es, hes⟩ : ∃ es : Nat, (ends src i).1 + 1 = es := ⟨((ends src i).1 + 1).toNat, by omega⟩
  refine SP_region ?_
  refine SPL_y (y_move rfl) rfl ?_
  refine SPL_y (y_addE (c := ((es : Nat) : Int)) rfl rfl (by omega) (by omega)) rfl ?_
  refine SPL_y (y_assign rfl) rfl ?_
  refine SPL_nil ?_
  refine thenP_n ?_
  refine SP_seq ?_
  have hb1 := hb
  rw [if_pos h9_1, if_neg h11_1, hes, Int.toNat_natCast] at hb1
  obtain ⟨sa1, sc1, ss1, rfl, hst1⟩ := hm2
  refine SP_openAt [blk x 119 (instR (.pointer (some ⟨pb, 0, none⟩)) rv (.pointer (some ⟨kb, 0, none⟩)) (.slice sa1 ({ R.pay with st := A } : RS).st.length sc1) E ({ R.pay with st := A } : RS)), ss1] (by first | exact P0 | exact P1 | exact P2 | exact P3 | exact P4 | exact P5 | exact P6 | exact P7 | exact P8 | exact P9 | exact P10 | exact P11 | exact P12 | exact P13 | exact P14 | exact P15 | exact P16 | exact P17 | exact P18 | exact P19 | exact P20 | exact P21 | exact P22 | exact P23) ?_
  simp only [List.cons_append, List.nil_append, instR]
  refine SP_region ?_
  refine SPL_y (y_move rfl) rfl ?_
  refine SPL_y (y_nil rfl) rfl ?_
  refine SPL_y (y_fa fld_119_3 rfl) rfl ?_
  refine SPL_y (y_load Tryz.isAgg35 rfl (by repeat (first | exact Cell.head rfl | apply Cell.tail))) rfl ?_
  refine SPL_y (y_len_l Tryz.underlying35 rfl) rfl ?_
  refine SPL_y (y_assign rfl) rfl ?_
  refine SPL_y (y_assign rfl) rfl ?_
  refine SPL_nil ?_
  refine thenP_n ?_
  refine SP_seq ?_
  refine SP_seq ?_
  refine SP_region ?_
  refine SPL_y (y_fa fld_87_1 rfl) rfl ?_
  refine SPL_y (y_load Tryz.isAgg3 rfl (by repeat (first | exact Cell.head rfl | apply Cell.tail))) rfl ?_
  refine SPL_ifn (y_neq rfl rfl) rfl ?_ ?_
  · intro h15_2
    refine SPL_y (y_move rfl) rfl ?_
    refine SPL_gn rfl rfl rfl rfl ?_
    refine SPL_gn rfl rfl rfl rfl ?_
    refine SPL_gn rfl rfl rfl rfl ?_
    refine SPL_y (y_pick_f rfl rfl) rfl ?_
    refine SPL_nil ?_
    refine thenP_n ?_
    refine SP_cond_f rfl ?_
    refine SP_skip ?_
    refine thenP_n ?_
    refine SP_block ?_
    refine SP_loop (G := Nat × RS × List W × Seg × Seg × Seg) (fun z => z.1) (fun z => [(0, pvp x), (1, .slice (some ⟨bs, 0, none⟩) src.length sc), (3, .slice la loc.length lc), (4, I depth), (12, pvp b12), (13, I (es : Nat)), (19, I (A.length : Nat)), (20, I (0 : Nat))]) (fun z => [z.2.2.2.1, z.2.2.2.2.1, z.2.2.2.2.2, sp, List.flatten [s6, blk bs 87 (codeV src ++ sps), s7], blk b12 87 (insV c)]) (fun z => z.1 ≤ n ∧ isR x (.pointer (some ⟨pb, 0, none⟩)) rv (.pointer (some ⟨kb, 0, none⟩)) E z.2.1 z.2.2.2.1 ∧ Arr 110 2 la loc.length lc (z.2.2.1.flatMap wv) z.2.2.2.2.1 ∧ isMm kb z.2.1.mem z.2.2.2.2.2 ∧ runM E z.1 ⟨src, es, true, 3, A.length, 0, depth⟩ z.2.1 z.2.2.1 = some r) ((n, ({ R.pay with st := A } : RS), loc, List.flatten [blk x 119 (instR (.pointer (some ⟨pb, 0, none⟩)) rv (.pointer (some ⟨kb, 0, none⟩)) (.slice sa1 ({ R.pay with st := A } : RS).st.length sc1) E ({ R.pay with st := A } : RS)), ss1], sl, sk)) (⟨Nat.le_refl _, (⟨sa1, sc1, ss1, rfl, hst1⟩ : isR x (.pointer (some ⟨pb, 0, none⟩)) rv (.pointer (some ⟨kb, 0, none⟩)) E ({ R.pay with st := A } : RS) (List.flatten [blk x 119 (instR (.pointer (some ⟨pb, 0, none⟩)) rv (.pointer (some ⟨kb, 0, none⟩)) (.slice sa1 ({ R.pay with st := A } : RS).st.length sc1) E ({ R.pay with st := A } : RS)), ss1])), hl, hk, by dsimp only; rw [← hb1]; rw [if_neg h15_2]⟩) (by repeat (first | exact Sub.nil _ | refine Sub.cons rfl ?_)) (by repeat (first | exact Part.nil _ | (apply Part.cons; (first | exact P0 | exact P1 | exact P2 | exact P3 | exact P4 | exact P5 | exact P6 | exact P7 | exact P8 | exact P9 | exact P10 | exact P11 | exact P12 | exact P13 | exact P14 | exact P15 | exact P16 | exact P17 | exact P18 | exact P19 | exact P20 | exact P21 | exact P22 | exact P23)) | (apply Part.flat; simp only [List.cons_append, List.nil_append]) | (apply Part.nilc))) ?_
    rintro ⟨k, R9, loc9, s9, sl9, sk9⟩ ⟨hkn, hm9, hl9, hk9, hr9⟩
    dsimp only at hkn hm9 hl9 hk9 hr9 ⊢
    have hll := flat_inj hl9
    obtain ⟨k, rfl⟩ : ∃ k', k = k' + 1 := by
      cases k with
      | zero => cases hr9
      | succ k' => exact ⟨k', rfl⟩
    obtain ⟨hS9, ⟨qb, qe, Q, ql⟩, hq, hcase⟩ := task_loop hr9
    dsimp only at hcase
    have hseq := hQ k (by omega) R9 s9 la lc loc9 sl9 sk9 src (some ⟨bs, 0, none⟩) sc (es) (3) depth (A.length) (0) (qb, qe, Q, ql) hm9 (by rw [hll]; exact hl9) (by omega) hk9 hsm hAt0 hd hq
    rw [hll] at hseq
    refine SP_block ?_
    refine SP_seq ?_
    refine SP_region ?_
    refine SPL_y (y_move rfl) rfl ?_
    refine SPL_y (y_move rfl) rfl ?_
    refine SPL_y (y_move rfl) rfl ?_
    refine SPL_y (y_move rfl) rfl ?_
    refine SPL_y (y_move rfl) rfl ?_
    refine SPL_one rfl (SP1_call (hseq) Tryz.call140 rfl rfl (by repeat (first | exact Part.nil _ | (apply Part.cons; (first | exact P0 | exact P1 | exact P2 | exact P3 | exact P4 | exact P5 | exact P6 | exact P7 | exact P8 | exact P9 | exact P10 | exact P11 | exact P12 | exact P13 | exact P14 | exact P15 | exact P16 | exact P17 | exact P18 | exact P19 | exact P20 | exact P21 | exact P22 | exact P23)) | (apply Part.flat; simp only [List.cons_append, List.nil_append]) | (apply Part.nilc))) ?_)
    rintro v post H' ⟨s10, sl10, sk10, st', rfl, rfl, hm10, hst', hl10, hk10⟩ hH
    try simp only [List.cons_append, List.nil_append] at hH
    subst hH
    dsimp only at hm10 hst' hl10 hk10 ⊢
    refine SPL_y (y_move rfl) rfl ?_
    refine SPL_y (y_ext rfl rfl) rfl ?_
    refine SPL_y (y_ext rfl rfl) rfl ?_
    refine SPL_y (y_assign rfl) rfl ?_
    refine SPL_y (y_assign rfl) rfl ?_
    refine SPL_nil ?_
    refine thenP_n ?_
    refine SP_seq ?_
    refine SP_seq ?_
    refine SP_region ?_
    refine SPL_y (y_move rfl) rfl ?_
    refine SPL_if (y_neq rfl rfl) rfl ?_ ?_
    · intro h18_1
      refine SPL_y (y_move rfl) rfl ?_
      refine SPL_gn rfl rfl rfl rfl ?_
      refine SPL_gn rfl rfl rfl rfl ?_
      refine SPL_y (y_pick_t rfl rfl) rfl ?_
      refine SPL_nil ?_
      refine thenP_n ?_
      refine SP_cond_t rfl ?_
      refine SP_seq ?_
      refine SP_region ?_
      refine SPL_y (y_move rfl) rfl ?_
      refine SPL_y (y_move rfl) rfl ?_
      refine SPL_y (y_assign rfl) rfl ?_
      refine SPL_y (y_assign rfl) rfl ?_
      refine SPL_nil ?_
      refine thenP_n ?_
      refine SP_ret ?_
      refine thenP_ret (inBlockP_ret (thenP_ret (inBlockP_ret (bodyP_ret (H' := [s10, sl10, sk10, sp, List.flatten [s6, blk bs 87 (codeV src ++ sps), s7]]) (Res2 rfl rfl rfl) (by repeat (first | exact Part.nil _ | (apply Part.cons; (first | exact P0 | exact P1 | exact P2 | exact P3 | exact P4 | exact P5 | exact P6 | exact P7 | exact P8 | exact P9 | exact P10 | exact P11 | exact P12 | exact P13 | exact P14 | exact P15 | exact P16 | exact P17 | exact P18 | exact P19 | exact P20 | exact P21 | exact P22 | exact P23)) | (apply Part.flat; simp only [List.cons_append, List.nil_append]) | (apply Part.nilc))) ?_))))
      obtain ⟨_, rfl⟩ | ⟨h1, _⟩ | ⟨h1, h2, _⟩ := hcase
      · exact ⟨_, _, _, st', rfl, rfl, hm10, hst', hl10, hk10⟩
      · exact absurd (.inl h18_1) h1
      · exact absurd h1 h18_1
    intro h18_1
    refine SPL_y (y_move rfl) rfl ?_
    refine SPL_gy rfl rfl ?_
    refine SPL_y (y_move rfl) rfl ?_
    refine SPL_gy rfl rfl ?_
    refine SPL_if (y_lss rfl rfl) rfl ?_ ?_
    · intro h18_4
      refine SPL_y (y_pick_f rfl rfl) rfl ?_
      refine SPL_nil ?_
      refine thenP_n ?_
      refine SP_cond_t rfl ?_
      refine SP_seq ?_
      refine SP_region ?_
      refine SPL_y (y_move rfl) rfl ?_
      refine SPL_y (y_move rfl) rfl ?_
      refine SPL_y (y_assign rfl) rfl ?_
      refine SPL_y (y_assign rfl) rfl ?_
      refine SPL_nil ?_
      refine thenP_n ?_
      refine SP_ret ?_
      refine thenP_ret (inBlockP_ret (thenP_ret (inBlockP_ret (bodyP_ret (H' := [s10, sl10, sk10, sp, List.flatten [s6, blk bs 87 (codeV src ++ sps), s7]]) (Res2 rfl rfl rfl) (by repeat (first | exact Part.nil _ | (apply Part.cons; (first | exact P0 | exact P1 | exact P2 | exact P3 | exact P4 | exact P5 | exact P6 | exact P7 | exact P8 | exact P9 | exact P10 | exact P11 | exact P12 | exact P13 | exact P14 | exact P15 | exact P16 | exact P17 | exact P18 | exact P19 | exact P20 | exact P21 | exact P22 | exact P23)) | (apply Part.flat; simp only [List.cons_append, List.nil_append]) | (apply Part.nilc))) ?_))))
      obtain ⟨_, rfl⟩ | ⟨h1, _⟩ | ⟨h1, h2, _⟩ := hcase
      · exact ⟨_, _, _, st', rfl, rfl, hm10, hst', hl10, hk10⟩
      · exact absurd (.inr h18_4) h1
      · omega
    intro h18_4
    refine SPL_y (y_pick_f rfl rfl) rfl ?_
    refine SPL_nil ?_
    refine thenP_n ?_
    refine SP_cond_f rfl ?_
    refine SP_skip ?_
    refine thenP_n ?_
    refine SP_seq ?_
    refine SP_seq ?_
    refine SP_region ?_
    refine SPL_y (y_move rfl) rfl ?_
    refine SPL_if (y_gtr rfl rfl) rfl ?_ ?_
    · intro h20_1
      refine SPL_nil ?_
      refine thenP_n ?_
      refine SP_cond_t rfl ?_
      refine SP_seq ?_
      obtain ⟨h1, _⟩ | ⟨_, hb1, hb2, rfl⟩ | ⟨_, h1, _⟩ := hcase
      · rcases h1 with h1 | h1
        · exact absurd h1 h18_1
        · exact absurd h1 h18_4
      rotate_left
      · omega
      refine SP_region ?_
      refine SPL_y (y_move rfl) rfl ?_
      refine SPL_y (y_sub rfl rfl (by omega)) rfl ?_
      refine SPL_y (y_assign rfl) rfl ?_
      refine SPL_y (y_assign rfl) rfl ?_
      refine SPL_nil ?_
      refine thenP_n ?_
      refine SP_ret ?_
      refine thenP_ret (inBlockP_ret (thenP_ret (inBlockP_ret (bodyP_ret (H' := [s10, sl10, sk10, sp, List.flatten [s6, blk bs 87 (codeV src ++ sps), s7]]) (Res2 rfl rfl rfl) (by repeat (first | exact Part.nil _ | (apply Part.cons; (first | exact P0 | exact P1 | exact P2 | exact P3 | exact P4 | exact P5 | exact P6 | exact P7 | exact P8 | exact P9 | exact P10 | exact P11 | exact P12 | exact P13 | exact P14 | exact P15 | exact P16 | exact P17 | exact P18 | exact P19 | exact P20 | exact P21 | exact P22 | exact P23)) | (apply Part.flat; simp only [List.cons_append, List.nil_append]) | (apply Part.nilc))) ?_))))
      obtain rfl : qe = 0 := Decidable.not_not.1 h18_1
      exact ⟨_, _, _, st', rfl, rfl, hm10, hst', hl10, hk10⟩
    intro h20_1
    refine SPL_nil ?_
    refine thenP_n ?_
    refine SP_cond_f rfl ?_
    refine SP_skip ?_
    refine thenP_n ?_
    refine SP_seq ?_
    refine SP_seq ?_
    obtain ⟨h1, _⟩ | ⟨_, h1, _⟩ | ⟨hq0, hb0, hle, hbd, hcase4⟩ := hcase
    · rcases h1 with h1 | h1
      · exact absurd h1 h18_1
      · exact absurd h1 h18_4
    · exact absurd h1 h20_1
    obtain rfl : qe = 0 := hq0
    obtain rfl : st' = Q.st := hst' rfl
    have hm10 : isR x (.pointer (some ⟨pb, 0, none⟩)) rv (.pointer (some ⟨kb, 0, none⟩)) E Q s10 := hm10
    refine SP_region ?_
    refine SPL_y (y_move rfl) rfl ?_
    refine SPL_y (y_move rfl) rfl ?_
    refine SPL_y (y_move rfl) rfl ?_
    refine SPL_one rfl (SP1_call (rm_cutN x (.pointer (some ⟨pb, 0, none⟩)) rv (.pointer (some ⟨kb, 0, none⟩)) E Q s10 hm10 (A.length) (0) hle hbd) Tryz.call141 rfl rfl (by repeat (first | exact Part.nil _ | (apply Part.cons; (first | exact P0 | exact P1 | exact P2 | exact P3 | exact P4 | exact P5 | exact P6 | exact P7 | exact P8 | exact P9 | exact P10 | exact P11 | exact P12 | exact P13 | exact P14 | exact P15 | exact P16 | exact P17 | exact P18 | exact P19 | exact P20 | exact P21 | exact P22 | exact P23)) | (apply Part.flat; simp only [List.cons_append, List.nil_append]) | (apply Part.nilc))) ?_)
    rintro v post H' ⟨s11, rfl, rfl, hm11⟩ hH
    try simp only [List.cons_append, List.nil_append] at hH
    subst hH
    refine SPL_y (y_not_t rfl) rfl ?_
    refine SPL_nil ?_
    refine thenP_n ?_
    refine SP_cond_f rfl ?_
    refine SP_skip ?_
    refine thenP_n ?_
    refine SP_seq ?_
    refine SP_region ?_
    refine SPL_y (y_fa fld_87_0 rfl) rfl ?_
    refine SPL_y (y_load Tryz.isAgg3 rfl (by repeat (first | exact Cell.head rfl | apply Cell.tail))) rfl ?_
    refine SPL_y (y_neqYes rfl rfl (by omega)) rfl ?_
    refine SPL_nil ?_
    refine thenP_n ?_
    refine SP_cond_t rfl ?_
    refine SP_seq ?_
    refine SP_region ?_
    refine SPL_y (y_assign rfl) rfl ?_
    refine SPL_y (y_assign rfl) rfl ?_
    refine SPL_nil ?_
    refine thenP_n ?_
    refine SP_ret ?_
    refine inBlockP_ret (thenP_ret (inBlockP_ret (bodyP_ret (H' := [s11, sl10, sk10, sp, List.flatten [s6, blk bs 87 (codeV src ++ sps), s7]]) (Res2 rfl rfl rfl) (by repeat (first | exact Part.nil _ | (apply Part.cons; (first | exact P0 | exact P1 | exact P2 | exact P3 | exact P4 | exact P5 | exact P6 | exact P7 | exact P8 | exact P9 | exact P10 | exact P11 | exact P12 | exact P13 | exact P14 | exact P15 | exact P16 | exact P17 | exact P18 | exact P19 | exact P20 | exact P21 | exact P22 | exact P23)) | (apply Part.flat; simp only [List.cons_append, List.nil_append]) | (apply Part.nilc))) ?_)))
    obtain ⟨h1, _⟩ | ⟨_, rfl⟩ := hcase4
    · exact absurd h1 (by decide)
    · exact ⟨_, _, _, _, rfl, rfl, hm11, fun _ => rfl, hl10, hk10⟩
  intro h15_2
  refine SPL_y (y_move rfl) rfl ?_
  refine SPL_gy rfl rfl ?_
  refine SPL_y (y_fa fld_87_0 rfl) rfl ?_
  refine SPL_gy rfl rfl ?_
  refine SPL_y (y_load Tryz.isAgg3 rfl (by repeat (first | exact Cell.head rfl | apply Cell.tail))) rfl ?_
  refine SPL_gy rfl rfl ?_
  refine SPL_y (y_neqYes rfl rfl (by omega)) rfl ?_
  refine SPL_y (y_pick_t rfl rfl) rfl ?_
  refine SPL_nil ?_
  refine thenP_n ?_
  refine SP_cond_t rfl ?_
  refine SP_region ?_
  refine SPL_y (y_assign rfl) rfl ?_
  refine SPL_nil ?_
  refine thenP_n ?_
  refine SP_block ?_
  refine SP_loop (G := Nat × RS × List W × Seg × Seg × Seg) (fun z => z.1) (fun z => [(0, pvp x), (1, .slice (some ⟨bs, 0, none⟩) src.length sc), (3, .slice la loc.length lc), (4, I depth), (12, pvp b12), (13, I (es : Nat)), (19, I (A.length : Nat)), (20, I (1 : Nat))]) (fun z => [z.2.2.2.1, z.2.2.2.2.1, z.2.2.2.2.2, sp, List.flatten [s6, blk bs 87 (codeV src ++ sps), s7], blk b12 87 (insV c)]) (fun z => z.1 ≤ n ∧ isR x (.pointer (some ⟨pb, 0, none⟩)) rv (.pointer (some ⟨kb, 0, none⟩)) E z.2.1 z.2.2.2.1 ∧ Arr 110 2 la loc.length lc (z.2.2.1.flatMap wv) z.2.2.2.2.1 ∧ isMm kb z.2.1.mem z.2.2.2.2.2 ∧ runM E z.1 ⟨src, es, true, 3, A.length, 1, depth⟩ z.2.1 z.2.2.1 = some r) ((n, ({ R.pay with st := A } : RS), loc, List.flatten [blk x 119 (instR (.pointer (some ⟨pb, 0, none⟩)) rv (.pointer (some ⟨kb, 0, none⟩)) (.slice sa1 ({ R.pay with st := A } : RS).st.length sc1) E ({ R.pay with st := A } : RS)), ss1], sl, sk)) (⟨Nat.le_refl _, (⟨sa1, sc1, ss1, rfl, hst1⟩ : isR x (.pointer (some ⟨pb, 0, none⟩)) rv (.pointer (some ⟨kb, 0, none⟩)) E ({ R.pay with st := A } : RS) (List.flatten [blk x 119 (instR (.pointer (some ⟨pb, 0, none⟩)) rv (.pointer (some ⟨kb, 0, none⟩)) (.slice sa1 ({ R.pay with st := A } : RS).st.length sc1) E ({ R.pay with st := A } : RS)), ss1])), hl, hk, by dsimp only; rw [← hb1]; rw [if_pos h15_2]⟩) (by repeat (first | exact Sub.nil _ | refine Sub.cons rfl ?_)) (by repeat (first | exact Part.nil _ | (apply Part.cons; (first | exact P0 | exact P1 | exact P2 | exact P3 | exact P4 | exact P5 | exact P6 | exact P7 | exact P8 | exact P9 | exact P10 | exact P11 | exact P12 | exact P13 | exact P14 | exact P15 | exact P16 | exact P17 | exact P18 | exact P19 | exact P20 | exact P21 | exact P22 | exact P23)) | (apply Part.flat; simp only [List.cons_append, List.nil_append]) | (apply Part.nilc))) ?_
  rintro ⟨k, R9, loc9, s9, sl9, sk9⟩ ⟨hkn, hm9, hl9, hk9, hr9⟩
  dsimp only at hkn hm9 hl9 hk9 hr9 ⊢
  have hll := flat_inj hl9
  obtain ⟨k, rfl⟩ : ∃ k', k = k' + 1 := by
    cases k with
    | zero => cases hr9
    | succ k' => exact ⟨k', rfl⟩
  obtain ⟨hS9, ⟨qb, qe, Q, ql⟩, hq, hcase⟩ := task_loop hr9
  dsimp only at hcase
  have hseq := hQ k (by omega) R9 s9 la lc loc9 sl9 sk9 src (some ⟨bs, 0, none⟩) sc (es) (3) depth (A.length) (1) (qb, qe, Q, ql) hm9 (by rw [hll]; exact hl9) (by omega) hk9 hsm hAt0 hd hq
  rw [hll] at hseq
  refine SP_block ?_
  refine SP_seq ?_
  refine SP_region ?_
  refine SPL_y (y_move rfl) rfl ?_
  refine SPL_y (y_move rfl) rfl ?_
  refine SPL_y (y_move rfl) rfl ?_
  refine SPL_y (y_move rfl) rfl ?_
  refine SPL_y (y_move rfl) rfl ?_
  refine SPL_one rfl (SP1_call (hseq) Tryz.call140 rfl rfl (by repeat (first | exact Part.nil _ | (apply Part.cons; (first | exact P0 | exact P1 | exact P2 | exact P3 | exact P4 | exact P5 | exact P6 | exact P7 | exact P8 | exact P9 | exact P10 | exact P11 | exact P12 | exact P13 | exact P14 | exact P15 | exact P16 | exact P17 | exact P18 | exact P19 | exact P20 | exact P21 | exact P22 | exact P23)) | (apply Part.flat; simp only [List.cons_append, List.nil_append]) | (apply Part.nilc))) ?_)
  rintro v post H' ⟨s10, sl10, sk10, st', rfl, rfl, hm10, hst', hl10, hk10⟩ hH
  try simp only [List.cons_append, List.nil_append] at hH
  subst hH
  dsimp only at hm10 hst' hl10 hk10 ⊢
  refine SPL_y (y_move rfl) rfl ?_
  refine SPL_y (y_ext rfl rfl) rfl ?_
  refine SPL_y (y_ext rfl rfl) rfl ?_
  refine SPL_y (y_assign rfl) rfl ?_
  refine SPL_y (y_assign rfl) rfl ?_
  refine SPL_nil ?_
  refine thenP_n ?_
  refine SP_seq ?_
  refine SP_seq ?_
  refine SP_region ?_
  refine SPL_y (y_move rfl) rfl ?_
  refine SPL_if (y_neq rfl rfl) rfl ?_ ?_
  · intro h18_1
    refine SPL_y (y_move rfl) rfl ?_
    refine SPL_gn rfl rfl rfl rfl ?_
    refine SPL_gn rfl rfl rfl rfl ?_
    refine SPL_y (y_pick_t rfl rfl) rfl ?_
    refine SPL_nil ?_
    refine thenP_n ?_
    refine SP_cond_t rfl ?_
    refine SP_seq ?_
    refine SP_region ?_
    refine SPL_y (y_move rfl) rfl ?_
    refine SPL_y (y_move rfl) rfl ?_
    refine SPL_y (y_assign rfl) rfl ?_
    refine SPL_y (y_assign rfl) rfl ?_
    refine SPL_nil ?_
    refine thenP_n ?_
    refine SP_ret ?_
    refine thenP_ret (inBlockP_ret (thenP_ret (inBlockP_ret (bodyP_ret (H' := [s10, sl10, sk10, sp, List.flatten [s6, blk bs 87 (codeV src ++ sps), s7]]) (Res2 rfl rfl rfl) (by repeat (first | exact Part.nil _ | (apply Part.cons; (first | exact P0 | exact P1 | exact P2 | exact P3 | exact P4 | exact P5 | exact P6 | exact P7 | exact P8 | exact P9 | exact P10 | exact P11 | exact P12 | exact P13 | exact P14 | exact P15 | exact P16 | exact P17 | exact P18 | exact P19 | exact P20 | exact P21 | exact P22 | exact P23)) | (apply Part.flat; simp only [List.cons_append, List.nil_append]) | (apply Part.nilc))) ?_))))
    obtain ⟨_, rfl⟩ | ⟨h1, _⟩ | ⟨h1, h2, _⟩ := hcase
    · exact ⟨_, _, _, st', rfl, rfl, hm10, hst', hl10, hk10⟩
    · exact absurd (.inl h18_1) h1
    · exact absurd h1 h18_1
  intro h18_1
  refine SPL_y (y_move rfl) rfl ?_
  refine SPL_gy rfl rfl ?_
  refine SPL_y (y_move rfl) rfl ?_
  refine SPL_gy rfl rfl ?_
  refine SPL_if (y_lss rfl rfl) rfl ?_ ?_
  · intro h18_4
    refine SPL_y (y_pick_f rfl rfl) rfl ?_
    refine SPL_nil ?_
    refine thenP_n ?_
    refine SP_cond_t rfl ?_
    refine SP_seq ?_
    refine SP_region ?_
    refine SPL_y (y_move rfl) rfl ?_
    refine SPL_y (y_move rfl) rfl ?_
    refine SPL_y (y_assign rfl) rfl ?_
    refine SPL_y (y_assign rfl) rfl ?_
    refine SPL_nil ?_
    refine thenP_n ?_
    refine SP_ret ?_
    refine thenP_ret (inBlockP_ret (thenP_ret (inBlockP_ret (bodyP_ret (H' := [s10, sl10, sk10, sp, List.flatten [s6, blk bs 87 (codeV src ++ sps), s7]]) (Res2 rfl rfl rfl) (by repeat (first | exact Part.nil _ | (apply Part.cons; (first | exact P0 | exact P1 | exact P2 | exact P3 | exact P4 | exact P5 | exact P6 | exact P7 | exact P8 | exact P9 | exact P10 | exact P11 | exact P12 | exact P13 | exact P14 | exact P15 | exact P16 | exact P17 | exact P18 | exact P19 | exact P20 | exact P21 | exact P22 | exact P23)) | (apply Part.flat; simp only [List.cons_append, List.nil_append]) | (apply Part.nilc))) ?_))))
    obtain ⟨_, rfl⟩ | ⟨h1, _⟩ | ⟨h1, h2, _⟩ := hcase
    · exact ⟨_, _, _, st', rfl, rfl, hm10, hst', hl10, hk10⟩
    · exact absurd (.inr h18_4) h1
    · omega
  intro h18_4
  refine SPL_y (y_pick_f rfl rfl) rfl ?_
  refine SPL_nil ?_
  refine thenP_n ?_
  refine SP_cond_f rfl ?_
  refine SP_skip ?_
  refine thenP_n ?_
  refine SP_seq ?_
  refine SP_seq ?_
  refine SP_region ?_
  refine SPL_y (y_move rfl) rfl ?_
  refine SPL_if (y_gtr rfl rfl) rfl ?_ ?_
  · intro h20_1
    refine SPL_nil ?_
    refine thenP_n ?_
    refine SP_cond_t rfl ?_
    refine SP_seq ?_
    obtain ⟨h1, _⟩ | ⟨_, hb1, hb2, rfl⟩ | ⟨_, h1, _⟩ := hcase
    · rcases h1 with h1 | h1
      · exact absurd h1 h18_1
      · exact absurd h1 h18_4
    rotate_left
    · omega
    refine SP_region ?_
    refine SPL_y (y_move rfl) rfl ?_
    refine SPL_y (y_sub rfl rfl (by omega)) rfl ?_
    refine SPL_y (y_assign rfl) rfl ?_
    refine SPL_y (y_assign rfl) rfl ?_
    refine SPL_nil ?_
    refine thenP_n ?_
    refine SP_ret ?_
    refine thenP_ret (inBlockP_ret (thenP_ret (inBlockP_ret (bodyP_ret (H' := [s10, sl10, sk10, sp, List.flatten [s6, blk bs 87 (codeV src ++ sps), s7]]) (Res2 rfl rfl rfl) (by repeat (first | exact Part.nil _ | (apply Part.cons; (first | exact P0 | exact P1 | exact P2 | exact P3 | exact P4 | exact P5 | exact P6 | exact P7 | exact P8 | exact P9 | exact P10 | exact P11 | exact P12 | exact P13 | exact P14 | exact P15 | exact P16 | exact P17 | exact P18 | exact P19 | exact P20 | exact P21 | exact P22 | exact P23)) | (apply Part.flat; simp only [List.cons_append, List.nil_append]) | (apply Part.nilc))) ?_))))
    obtain rfl : qe = 0 := Decidable.not_not.1 h18_1
    exact ⟨_, _, _, st', rfl, rfl, hm10, hst', hl10, hk10⟩
  intro h20_1
  refine SPL_nil ?_
  refine thenP_n ?_
  refine SP_cond_f rfl ?_
  refine SP_skip ?_
  refine thenP_n ?_
  refine SP_seq ?_
  refine SP_seq ?_
  obtain ⟨h1, _⟩ | ⟨_, h1, _⟩ | ⟨hq0, hb0, hle, hbd, hcase4⟩ := hcase
  · rcases h1 with h1 | h1
    · exact absurd h1 h18_1
    · exact absurd h1 h18_4
  · exact absurd h1 h20_1
  obtain rfl : qe = 0 := hq0
  obtain rfl : st' = Q.st := hst' rfl
  have hm10 : isR x (.pointer (some ⟨pb, 0, none⟩)) rv (.pointer (some ⟨kb, 0, none⟩)) E Q s10 := hm10
  refine SP_region ?_
  refine SPL_y (y_move rfl) rfl ?_
  refine SPL_y (y_move rfl) rfl ?_
  refine SPL_y (y_move rfl) rfl ?_
  refine SPL_one rfl (SP1_call (rm_cutN x (.pointer (some ⟨pb, 0, none⟩)) rv (.pointer (some ⟨kb, 0, none⟩)) E Q s10 hm10 (A.length) (1) hle hbd) Tryz.call141 rfl rfl (by repeat (first | exact Part.nil _ | (apply Part.cons; (first | exact P0 | exact P1 | exact P2 | exact P3 | exact P4 | exact P5 | exact P6 | exact P7 | exact P8 | exact P9 | exact P10 | exact P11 | exact P12 | exact P13 | exact P14 | exact P15 | exact P16 | exact P17 | exact P18 | exact P19 | exact P20 | exact P21 | exact P22 | exact P23)) | (apply Part.flat; simp only [List.cons_append, List.nil_append]) | (apply Part.nilc))) ?_)
  rintro v post H' ⟨s11, rfl, rfl, hm11⟩ hH
  try simp only [List.cons_append, List.nil_append] at hH
  subst hH
  refine SPL_y (y_not_t rfl) rfl ?_
  refine SPL_nil ?_
  refine thenP_n ?_
  refine SP_cond_f rfl ?_
  refine SP_skip ?_
  refine thenP_n ?_
  refine SP_seq ?_
  refine SP_region ?_
  refine SPL_y (y_fa fld_87_0 rfl) rfl ?_
  refine SPL_y (y_load Tryz.isAgg3 rfl (by repeat (first | exact Cell.head rfl | apply Cell.tail))) rfl ?_
  refine SPL_y (y_neqYes rfl rfl (by omega)) rfl ?_
  refine SPL_nil ?_
  refine thenP_n ?_
  refine SP_cond_t rfl ?_
  refine SP_seq ?_
  refine SP_region ?_
  refine SPL_y (y_assign rfl) rfl ?_
  refine SPL_y (y_assign rfl) rfl ?_
  refine SPL_nil ?_
  refine thenP_n ?_
  refine SP_ret ?_
  refine inBlockP_ret (thenP_ret (inBlockP_ret (bodyP_ret (H' := [s11, sl10, sk10, sp, List.flatten [s6, blk bs 87 (codeV src ++ sps), s7]]) (Res2 rfl rfl rfl) (by repeat (first | exact Part.nil _ | (apply Part.cons; (first | exact P0 | exact P1 | exact P2 | exact P3 | exact P4 | exact P5 | exact P6 | exact P7 | exact P8 | exact P9 | exact P10 | exact P11 | exact P12 | exact P13 | exact P14 | exact P15 | exact P16 | exact P17 | exact P18 | exact P19 | exact P20 | exact P21 | exact P22 | exact P23)) | (apply Part.flat; simp only [List.cons_append, List.nil_append]) | (apply Part.nilc))) ?_)))
  obtain ⟨h1, _⟩ | ⟨_, rfl⟩ := hcase4
  · exact absurd h1 (by decide)
  · exact ⟨_, _, _, _, rfl, rfl, hm11, fun _ => rfl, hl10, hk10⟩

theorem rm_block3d (x pb kb : Nat) (rv : Value) (E : RE) (sp sx : Seg) (hC : RC E pb rv sp sx) (n : Nat) (hQ : ∀ m, m ≤ n → SeqOk E x pb kb rv sp sx m) (R : RS) (s : Seg) (hm : isR x (.pointer (some ⟨pb, 0, none⟩)) rv (.pointer (some ⟨kb, 0, none⟩)) E R s) (la : Option Addr) (lc : Nat) (loc : List W) (sl : Seg) (hl : Arr 110 2 la loc.length lc (loc.flatMap wv) sl) (hlo : loc.length ≤ 100) (sk : Seg) (hk : isMm kb R.mem sk) (src : List Ins) (hsm : src ∈ E.src) (sa : Option Addr) (sc : Nat) (hAt : SrcAt sx src sa sc) (i : Nat) (hi : i < src.length) (c : Ins) (hci : src[i] = c) (depth : Int) (hd : 0 ≤ depth ∧ depth ≤ 100) (hS : Small R) (hop : c.op = 3) (hdry : E.fuel ≤ R.used) : Spec Tryz.prog 149 [pvp x, .slice sa src.length sc, I i, .slice la loc.length lc, I depth] [s, sl, sk, sp, sx] (Ret (RPost x pb kb rv E sp sx la loc.length lc (-1, 17, R.tick, loc))) := by
  obtain ⟨hsl, hwl⟩ := hC.wl src hsm
  have hz := hS.st
  have hAt0 := hAt
  obtain ⟨s6, sv, s7, rfl, hs⟩ := hAt
  obtain ⟨bs, sps, rfl, hsc, hsps, rfl⟩ := hs.row (by omega)
  refine Spec_openAt [s6, blk bs 87 (codeV src ++ sps), s7] (by first | exact P0 | exact P1 | exact P2 | exact P3 | exact P4 | exact P5 | exact P6 | exact P7 | exact P8 | exact P9 | exact P10 | exact P11 | exact P12 | exact P13 | exact P14 | exact P15 | exact P16 | exact P17 | exact P18 | exact P19 | exact P20 | exact P21 | exact P22 | exact P23) ?_
  simp only [List.cons_append, List.nil_append]
  refine Spec_enter Tryz.func149 rfl Tryz.ntmps149 rfl ?_
  show SP _ _ _ _ _ [(0, _), (1, _), (2, _), (3, _), (4, _)] _
  refine SP_seq ?_
  refine SP_region ?_
  refine SPL_y (y_assign rfl) rfl ?_
  refine SPL_y (y_assign rfl) rfl ?_
  refine SPL_nil ?_
  refine thenP_n ?_
  refine SP_seq ?_
  refine SP_region ?_
  refine SPL_y (y_move rfl) rfl ?_
  refine SPL_y (y_move rfl) rfl ?_
  refine SPL_y (y_ia Tryz.underlying34 Tryz.sizeOf87 rfl rfl (by omega)) rfl ?_
  refine SPL_y (y_loads Tryz.isAgg87 Tryz.sizeOf87 rfl rfl (by repeat (first | exact flat_cellsE insV_len (i := i) rfl hi hci | apply Cells.tail))) rfl ?_
  refine SPL_y (y_move rfl) rfl ?_
  refine SPL_y (y_add rfl rfl (by omega)) rfl ?_
  refine SPL_one rfl (SP1_alloc Tryz.zeroValue87 rfl rfl ?_)
  intro b12
  refine SPL_one rfl (SP1_storeAll Tryz.sizeOf87 rfl rfl rfl rfl rfl (by first | exact U0 | exact U1 | exact U2 | exact U3 | exact U4 | exact U5 | exact U6 | exact U7 | exact U8 | exact U9 | exact U10 | exact U11 | exact U12 | exact U13 | exact U14 | exact U15 | exact U16 | exact U17 | exact U18 | exact U19 | exact U20 | exact U21 | exact U22 | exact U23) (by rfl) ?_)
  refine SPL_y (y_assign rfl) rfl ?_
  refine SPL_nil ?_
  refine thenP_n ?_
  refine SP_seq ?_
  refine SP_seq ?_
  refine SP_region ?_
  refine SPL_y (y_fa fld_87_0 rfl) rfl ?_
  refine SPL_y (y_load Tryz.isAgg3 rfl (by repeat (first | exact Cell.head rfl | apply Cell.tail))) rfl ?_
  refine SPL_y (y_eqlT rfl rfl hop) rfl ?_
  refine SPL_nil ?_
  refine thenP_n ?_
  refine SP_cond_t rfl ?_
  refine SP_seq ?_
  refine SP_region ?_
  refine SPL_y (y_move rfl) rfl ?_
  refine SPL_one rfl (SP1_call (rm_payN x (.pointer (some ⟨pb, 0, none⟩)) rv (.pointer (some ⟨kb, 0, none⟩)) E R s hm hdry) Tryz.call155 rfl rfl (by repeat (first | exact Part.nil _ | (apply Part.cons; (first | exact P0 | exact P1 | exact P2 | exact P3 | exact P4 | exact P5 | exact P6 | exact P7 | exact P8 | exact P9 | exact P10 | exact P11 | exact P12 | exact P13 | exact P14 | exact P15 | exact P16 | exact P17 | exact P18 | exact P19 | exact P20 | exact P21 | exact P22 | exact P23)) | (apply Part.flat; simp only [List.cons_append, List.nil_append]) | (apply Part.nilc))) ?_)
  rintro v post H' ⟨s1, rfl, rfl, hm1⟩ hH
  try simp only [List.cons_append, List.nil_append] at hH
  subst hH
  refine SPL_y (y_assign rfl) rfl ?_
  refine SPL_nil ?_
  refine thenP_n ?_
  refine SP_seq ?_
  refine SP_seq ?_
  refine SP_region ?_
  refine SPL_y (y_move rfl) rfl ?_
  refine SPL_y (y_neqYes rfl rfl (by decide)) rfl ?_
  refine SPL_nil ?_
  refine thenP_n ?_
  refine SP_cond_t rfl ?_
  refine SP_seq ?_
  refine SP_region ?_
  refine SPL_y (y_move rfl) rfl ?_
  refine SPL_y (y_assign rfl) rfl ?_
  refine SPL_y (y_assign rfl) rfl ?_
  refine SPL_nil ?_
  refine thenP_n ?_
  refine SP_ret ?_
  refine thenP_ret (thenP_ret (bodyP_ret (H' := [s1, sl, sk, sp, List.flatten [s6, blk bs 87 (codeV src ++ sps), s7]]) (Res2 rfl rfl rfl) (by repeat (first | exact Part.nil _ | (apply Part.cons; (first | exact P0 | exact P1 | exact P2 | exact P3 | exact P4 | exact P5 | exact P6 | exact P7 | exact P8 | exact P9 | exact P10 | exact P11 | exact P12 | exact P13 | exact P14 | exact P15 | exact P16 | exact P17 | exact P18 | exact P19 | exact P20 | exact P21 | exact P22 | exact P23)) | (apply Part.flat; simp only [List.cons_append, List.nil_append]) | (apply Part.nilc))) ?_))
  exact ⟨_, _, _, _, rfl, rfl, hm1, fun _ => rfl, hl, hk⟩

theorem rm_block (x pb kb : Nat) (rv : Value) (E : RE) (sp sx : Seg) (hC : RC E pb rv sp sx) (n : Nat) (hQ : ∀ m, m ≤ n → SeqOk E x pb kb rv sp sx m) (R : RS) (s : Seg) (hm : isR x (.pointer (some ⟨pb, 0, none⟩)) rv (.pointer (some ⟨kb, 0, none⟩)) E R s) (la : Option Addr) (lc : Nat) (loc : List W) (sl : Seg) (hl : Arr 110 2 la loc.length lc (loc.flatMap wv) sl) (hlo : loc.length ≤ 100) (sk : Seg) (hk : isMm kb R.mem sk) (src : List Ins) (hsm : src ∈ E.src) (sa : Option Addr) (sc : Nat) (hAt : SrcAt sx src sa sc) (i : Nat) (hi : i < src.length) (c : Ins) (hci : src[i] = c) (depth : Int) (hd : 0 ≤ depth ∧ depth ≤ 100) (hS : Small R) (r : RR) (hop : c.op = 1 ∨ c.op = 2 ∨ c.op = 3) (hb : blockM E (runM E n) R loc src i c depth = some r) : Spec Tryz.prog 149 [pvp x, .slice sa src.length sc, I i, .slice la loc.length lc, I depth] [s, sl, sk, sp, sx] (Ret (RPost x pb kb rv E sp sx la loc.length lc r)) := by
  unfold blockM at hb
  by_cases h3 : c.op = 3
  · rw [if_pos h3] at hb
    by_cases hpay : E.fuel ≤ R.used
    · rw [if_pos hpay] at hb
      simp only [Option.some.injEq] at hb
      subst hb
      exact rm_block3d x pb kb rv E sp sx hC n hQ R s hm la lc loc sl hl hlo sk hk src hsm sa sc hAt i hi c hci depth hd hS h3 hpay
    · rw [if_neg hpay] at hb
      split at hb
      case isFalse => cases hb
      rename_i hc
      refine rm_block3 x pb kb rv E sp sx hC n hQ R s hm la lc loc sl hl hlo sk hk src hsm sa sc hAt i hi c hci depth hd hS r h3 hpay R.st.dropLast (lst R.st) (split1 hc.1) (w105 hc.2) ?_
      rw [List.length_dropLast]
      exact hb
  · rw [if_neg h3] at hb
    rcases hop with h | h | h
    · exact rm_block1 x pb kb rv E sp sx hC n hQ R s hm la lc loc sl hl hlo sk hk src hsm sa sc hAt i hi c hci depth hd hS r h hb
    · exact rm_block2 x pb kb rv E sp sx hC n hQ R s hm la lc loc sl hl hlo sk hk src hsm sa sc hAt i hi c hci depth hd hS r h hb
    · exact absurd h h3

end Go.Sl
