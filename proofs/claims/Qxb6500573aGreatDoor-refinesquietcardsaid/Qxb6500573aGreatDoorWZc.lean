/- Walks: package syntaxm, the parser: the contract; statements (made by program out of short notes) -/
import Derived.Test.Qxb6500573aGreatDoorWZb
namespace Go.Sl
open Go Go.Wl Go.Proofs
open Go.Nm Go.Zm
set_option maxRecDepth 100000
set_option linter.unusedVariables false
set_option linter.unusedSimpArgs false
theorem next_nodes {src : List UInt8} {m m' : PZ} (h : nextZ src m = some m') : m'.nodes = m.nodes := by
  unfold nextZ at h
  split at h
  · split at h <;> (injection h with h; subst h; rfl)
  · cases h
theorem fail_nodes (e : Int) (m : PZ) : (failZ e m).nodes = m.nodes := by unfold failZ; split <;> rfl
theorem want_nodes {src t : List UInt8} {m m' : PZ} (h : wantZ src t m = some m') : m'.nodes = m.nodes := by
  unfold wantZ at h
  cases e : isZ t m <;> rw [e] at h
  · injection h with h; subst h; exact fail_nodes _ _
  · exact next_nodes h
theorem name_nodes {src : List UInt8} {e : Int} {r : List UInt8 × Int} {m m' : PZ} (h : nameZ src e m = some (r, m')) : m'.nodes = m.nodes := by
  unfold nameZ at h
  split at h
  · injection h with h; injection h with h1 h2; subst h2; exact fail_nodes _ _
  · obtain ⟨_, h⟩ := grd h
    split at h
    · injection h with h; injection h with h1 h2; subst h2; exact fail_nodes _ _
    · obtain ⟨m1, hq, h⟩ := bnd1 h
      injection h with h; injection h with h1 h2; subst h2; exact next_nodes hq
theorem deep_nodes {lv : Int} {q : Bool} {m m' : PZ} (h : some (deepZ lv m) = some (q, m')) : m'.nodes = m.nodes := by
  injection h with h
  unfold deepZ at h
  split at h <;> (injection h with h1 h2; subst h2)
  · exact fail_nodes _ _
  · rfl
theorem pzb_set (x : ZX) (nk nc : Nat) {m m1 : PZ} {la : Nat} {d : Nd} (hm : m1 = { m with nodes := m.nodes.set la d }) : pzb x nk nc m = pzb x nk nc m1 := by subst hm; show blk _ _ _ = blk _ _ _; dsimp only; rw [List.length_set]
theorem pzn_set (nk : Nat) (sp : List Value) {m m1 : PZ} {la : Nat} {d : Nd} (hm : m1 = { m with nodes := m.nodes.set la d }) : blk nk 158 ((m.nodes.set la d).flatMap ndV ++ sp) = pzn nk m1.nodes sp := by subst hm; rfl
theorem NzOk.setm {nc : Nat} {m m1 : PZ} {sp : List Value} {la : Nat} {d : Nd} (h : NzOk nc m.nodes sp) (hm : m1 = { m with nodes := m.nodes.set la d }) : NzOk nc m1.nodes sp := by subst hm; exact NzOk.set h _ _
theorem bin_rng (r : Int) (m : PZ) : 0 ≤ binOpZ r m ∧ binOpZ r m ≤ 20 := by
  have h : ∀ (s : List UInt8) (l : List (List UInt8 × Int × Int)), (∀ b, b ∈ l → 0 ≤ b.2.2 ∧ b.2.2 ≤ 20) → 0 ≤ (findB s l).2 ∧ (findB s l).2 ≤ 20 := by
    intro s l
    induction l with
    | nil => intro _; exact ⟨Int.le_refl 0, by show (0 : Int) ≤ 20; omega⟩
    | cons b l ih =>
      intro hl
      unfold findB
      split
      · exact hl b List.mem_cons_self
      · exact ih fun b hb => hl b (List.mem_cons_of_mem _ hb)
  unfold binOpZ
  split
  · omega
  · split
    · omega
    · exact h _ _ (by decide)
/-- The contract. -/
structure PK (x : ZX) (rc : RZ) : Prop where
  block : ∀ {lv : Int} {nk nc : Nat} {sp : List Value} {m m' : PZ} {v0 : Int}, rc.block lv m = some (v0, m') → NzOk nc m.nodes sp → Spec Tryz.prog 89 [pt x.b, I lv] [pzb x nk nc m, pzn nk m.nodes sp] (Ret (ZRet x m' (I v0)))
  stmt : ∀ {lv : Int} {nk nc : Nat} {sp : List Value} {m m' : PZ} {v0 : Int}, rc.stmt lv m = some (v0, m') → NzOk nc m.nodes sp → Spec Tryz.prog 155 [pt x.b, I lv] [pzb x nk nc m, pzn nk m.nodes sp] (Ret (ZRet x m' (I v0)))
  locS : ∀ {lv : Int} {nk nc : Nat} {sp : List Value} {m m' : PZ} {v0 : Int}, rc.locS lv m = some (v0, m') → NzOk nc m.nodes sp → Spec Tryz.prog 218 [pt x.b, I lv] [pzb x nk nc m, pzn nk m.nodes sp] (Ret (ZRet x m' (I v0)))
  ifS : ∀ {lv : Int} {nk nc : Nat} {sp : List Value} {m m' : PZ} {v0 : Int}, rc.ifS lv m = some (v0, m') → NzOk nc m.nodes sp → Spec Tryz.prog 219 [pt x.b, I lv] [pzb x nk nc m, pzn nk m.nodes sp] (Ret (ZRet x m' (I v0)))
  forS : ∀ {lv : Int} {nk nc : Nat} {sp : List Value} {m m' : PZ} {v0 : Int}, rc.forS lv m = some (v0, m') → NzOk nc m.nodes sp → Spec Tryz.prog 220 [pt x.b, I lv] [pzb x nk nc m, pzn nk m.nodes sp] (Ret (ZRet x m' (I v0)))
  expr : ∀ {lv : Int} {nk nc : Nat} {sp : List Value} {m m' : PZ} {v0 : Int}, rc.expr lv m = some (v0, m') → NzOk nc m.nodes sp → Spec Tryz.prog 221 [pt x.b, I lv] [pzb x nk nc m, pzn nk m.nodes sp] (Ret (ZRet x m' (I v0)))
  body : ∀ {lv : Int} {extra : Int} {nk nc : Nat} {sp : List Value} {m m' : PZ} {v0 : Int}, rc.body lv extra m = some (v0, m') → NzOk nc m.nodes sp → Spec Tryz.prog 222 [pt x.b, I lv, I extra] [pzb x nk nc m, pzn nk m.nodes sp] (Ret (ZRet x m' (I v0)))
  post : ∀ {lv : Int} {nk nc : Nat} {sp : List Value} {m m' : PZ} {v0 : Int}, rc.post lv m = some (v0, m') → NzOk nc m.nodes sp → Spec Tryz.prog 224 [pt x.b, I lv] [pzb x nk nc m, pzn nk m.nodes sp] (Ret (ZRet x m' (I v0)))
  fnS : ∀ {lv : Int} {at_ : Int} {nk nc : Nat} {sp : List Value} {m m' : PZ} {v0 : Int}, rc.fnS lv at_ m = some (v0, m') → NzOk nc m.nodes sp → Spec Tryz.prog 269 [pt x.b, I lv, I at_] [pzb x nk nc m, pzn nk m.nodes sp] (Ret (ZRet x m' (I v0)))
  andE : ∀ {lv : Int} {nk nc : Nat} {sp : List Value} {m m' : PZ} {v0 : Int}, rc.andE lv m = some (v0, m') → NzOk nc m.nodes sp → Spec Tryz.prog 271 [pt x.b, I lv] [pzb x nk nc m, pzn nk m.nodes sp] (Ret (ZRet x m' (I v0)))
  prim : ∀ {lv : Int} {nk nc : Nat} {sp : List Value} {m m' : PZ} {v0 : Int}, rc.prim lv m = some (v0, m') → NzOk nc m.nodes sp → Spec Tryz.prog 272 [pt x.b, I lv] [pzb x nk nc m, pzn nk m.nodes sp] (Ret (ZRet x m' (I v0)))
  list : ∀ {lv : Int} {closing : List UInt8} {mx : Int} {nk nc : Nat} {sp : List Value} {m m' : PZ} {v0 : Int}, rc.list lv closing mx m = some (v0, m') → NzOk nc m.nodes sp → Spec Tryz.prog 273 [pt x.b, I lv, S closing, I mx] [pzb x nk nc m, pzn nk m.nodes sp] (Ret (ZRet x m' (I v0)))
  left : ∀ {lv : Int} {r : Int} {nk nc : Nat} {sp : List Value} {m m' : PZ} {v0 : Int}, rc.left lv r m = some (v0, m') → NzOk nc m.nodes sp → Spec Tryz.prog 298 [pt x.b, I lv, I r] [pzb x nk nc m, pzn nk m.nodes sp] (Ret (ZRet x m' (I v0)))
  unary : ∀ {lv : Int} {nk nc : Nat} {sp : List Value} {m m' : PZ} {v0 : Int}, rc.unary lv m = some (v0, m') → NzOk nc m.nodes sp → Spec Tryz.prog 310 [pt x.b, I lv] [pzb x nk nc m, pzn nk m.nodes sp] (Ret (ZRet x m' (I v0)))
theorem pz_block (x : ZX) (rc : RZ) (hr : PK x rc) {n : Nat} {lv : Int} {nk nc : Nat} {sp : List Value} {m m' : PZ} {v0 : Int} (hP : blockZ rc n lv m = some (v0, m')) (hA : NzOk nc m.nodes sp) : Spec Tryz.prog 89 [pt x.b, I lv] [pzb x nk nc m, pzn nk m.nodes sp] (Ret (ZRet x m' (I v0))) := by
  unfold blockZ at hP
  obtain ⟨hlv, hP⟩ := grd hP
  refine Spec_enter Tryz.func89 rfl Tryz.ntmps89 rfl ?_
  show SP _ _ _ _ _ [(0, _), (1, _)] _
  refine SP_seq ?_
  refine SP_region ?_
  refine SPL_y (y_assign rfl) rfl ?_
  refine SPL_nil ?_
  refine thenP_n ?_
  refine SP_seq ?_
  refine SP_seq ?_
  refine SP_region ?_
  refine SPL_y (y_move rfl) rfl ?_
  refine SPL_y (y_move rfl) rfl ?_
  obtain ⟨dq, m, hq, hP⟩ := bnd2 hP
  have hn := deep_nodes hq
  try dsimp only at hn
  refine SPL_one rfl (SP1_call (pz_deep x _ _ hq) Tryz.call153 rfl rfl (by repeat (first | exact Part.nil _ | (apply Part.cons; with_reducible (first | exact P0 | exact P1 | exact P2 | exact P3 | exact P4 | exact P5 | exact P6 | exact P7 | exact P8 | exact P9 | exact P10 | exact P11 | exact P12 | exact P13 | exact P14 | exact P15 | exact P16 | exact P17 | exact P18 | exact P19 | exact P20 | exact P21 | exact P22 | exact P23)) | (apply Part.flat; simp only [List.cons_append, List.nil_append]) | (apply Part.cons; (first | exact P0 | exact P1 | exact P2 | exact P3 | exact P4 | exact P5 | exact P6 | exact P7 | exact P8 | exact P9 | exact P10 | exact P11 | exact P12 | exact P13 | exact P14 | exact P15 | exact P16 | exact P17 | exact P18 | exact P19 | exact P20 | exact P21 | exact P22 | exact P23)) | (apply Part.nilc))) ?_)
  rintro v post H' ⟨rfl, rfl⟩ hH
  rcases dq with _ | _
  · try simp only [List.cons_append, List.nil_append] at hH
    subst hH
    try dsimp only [cond_true, cond_false, Bool.true_or, Bool.false_or] at hP
    rw [← hn] at hA ⊢
    clear hn
    refine SPL_nil ?_
    refine thenP_n ?_
    refine SP_cond_f rfl ?_
    refine SP_skip ?_
    refine thenP_n ?_
    refine SP_seq ?_
    refine SP_region ?_
    refine SPL_y (y_move rfl) rfl ?_
    refine SPL_y (y_nil rfl) rfl ?_
    refine SPL_y (y_fa fld_195_7 rfl) rfl ?_
    refine SPL_y (y_load Tryz.isAgg3 rfl (by repeat (first | exact Cell.amid hpre rfl | exact Cell.head rfl | apply Cell.tail))) rfl ?_
    obtain ⟨saved, hsv⟩ : ∃ q, q = m.alive := ⟨_, rfl⟩
    rw [← hsv] at hP ⊢
    clear hsv
    refine SPL_y (y_assign rfl) rfl ?_
    refine SPL_nil ?_
    refine thenP_n ?_
    refine SP_seq ?_
    refine SP_region ?_
    refine SPL_y (y_assign rfl) rfl ?_
    refine SPL_nil ?_
    refine thenP_n ?_
    refine SP_seq ?_
    refine SP_region ?_
    refine SPL_y (y_assign rfl) rfl ?_
    refine SPL_nil ?_
    refine thenP_n ?_
    refine SP_seq ?_
    refine SP_block ?_
    refine SP_loop (G := Nat × Int × Int × PZ × Nat × Nat × List Value) (fun g => g.1) (fun g => [(0, pt x.b), (1, I lv), (5, I saved), (6, I g.2.1), (7, I g.2.2.1)]) (fun g => [pzb x g.2.2.2.2.1 g.2.2.2.2.2.1 g.2.2.2.1, pzn g.2.2.2.2.1 g.2.2.2.1.nodes g.2.2.2.2.2.2]) (fun g => NzOk g.2.2.2.2.2.1 g.2.2.2.1.nodes g.2.2.2.2.2.2 ∧ blkZL rc g.1 lv saved g.2.1 g.2.2.1 g.2.2.2.1 = some (v0, m')) ((n, 0, 0, m, nk, nc, sp)) (⟨hA, hP⟩) (by repeat (first | exact Sub.nil _ | refine Sub.cons rfl ?_)) (by repeat (first | exact Part.nil _ | (apply Part.cons; with_reducible (first | exact P0 | exact P1 | exact P2 | exact P3 | exact P4 | exact P5 | exact P6 | exact P7 | exact P8 | exact P9 | exact P10 | exact P11 | exact P12 | exact P13 | exact P14 | exact P15 | exact P16 | exact P17 | exact P18 | exact P19 | exact P20 | exact P21 | exact P22 | exact P23)) | (apply Part.flat; simp only [List.cons_append, List.nil_append]) | (apply Part.cons; (first | exact P0 | exact P1 | exact P2 | exact P3 | exact P4 | exact P5 | exact P6 | exact P7 | exact P8 | exact P9 | exact P10 | exact P11 | exact P12 | exact P13 | exact P14 | exact P15 | exact P16 | exact P17 | exact P18 | exact P19 | exact P20 | exact P21 | exact P22 | exact P23)) | (apply Part.nilc))) ?_
    rintro ⟨n1, first, last, m, nk, nc, sp⟩ ⟨hA, hP⟩
    dsimp only at hA hP ⊢
    cases n1 with
    | zero => cases hP
    | succ n =>
    rw [blkZL] at hP
    refine SP_seq ?_
    refine SP_seq ?_
    refine SP_region ?_
    refine SPL_y (y_move rfl) rfl ?_
    refine SPL_one rfl (SP1_call (pz_end x _ _ m) Tryz.call154 rfl rfl (by repeat (first | exact Part.nil _ | (apply Part.cons; with_reducible (first | exact P0 | exact P1 | exact P2 | exact P3 | exact P4 | exact P5 | exact P6 | exact P7 | exact P8 | exact P9 | exact P10 | exact P11 | exact P12 | exact P13 | exact P14 | exact P15 | exact P16 | exact P17 | exact P18 | exact P19 | exact P20 | exact P21 | exact P22 | exact P23)) | (apply Part.flat; simp only [List.cons_append, List.nil_append]) | (apply Part.cons; (first | exact P0 | exact P1 | exact P2 | exact P3 | exact P4 | exact P5 | exact P6 | exact P7 | exact P8 | exact P9 | exact P10 | exact P11 | exact P12 | exact P13 | exact P14 | exact P15 | exact P16 | exact P17 | exact P18 | exact P19 | exact P20 | exact P21 | exact P22 | exact P23)) | (apply Part.nilc))) ?_)
    rintro v post H' ⟨rfl, rfl⟩ hH
    generalize hw : endZ m = w at hP ⊢
    rcases w with _ | _
    · try simp only [List.cons_append, List.nil_append] at hH
      subst hH
      try dsimp only [cond_true, cond_false, Bool.true_or, Bool.false_or] at hP
      refine SPL_y (y_not_f rfl) rfl ?_
      refine SPL_nil ?_
      refine thenP_n ?_
      refine SP_cond_t rfl ?_
      refine SP_skip ?_
      refine thenP_n ?_
      refine SP_block ?_
      refine SP_seq ?_
      refine SP_seq ?_
      obtain ⟨sh, hsh, hP⟩ := bnd1 hP
      refine SP_region ?_
      refine SPL_y (y_move rfl) rfl ?_
      refine SPL_ifn (y_neq rfl rfl) rfl ?_ ?_
      · intro h7_1
        first | rw [if_neg h7_1] at hP | rw [if_pos (Decidable.not_not.1 h7_1)] at hP | skip
        refine SPL_y (y_move rfl) rfl ?_
        refine SPL_gn rfl rfl rfl rfl ?_
        refine SPL_gn rfl rfl rfl rfl ?_
        refine SPL_gn rfl rfl rfl rfl ?_
        refine SPL_gn rfl rfl rfl rfl ?_
        refine SPL_gn rfl rfl rfl rfl ?_
        refine SPL_gn rfl rfl rfl rfl ?_
        refine SPL_gn rfl rfl rfl rfl ?_
        refine SPL_gn rfl rfl rfl rfl ?_
        refine SPL_gn rfl rfl rfl rfl ?_
        refine SPL_gn rfl rfl rfl rfl ?_
        refine SPL_gu rfl rfl rfl ?_
        refine SPL_gu rfl rfl rfl ?_
        refine SPL_gu rfl rfl rfl ?_
        refine SPL_gu rfl rfl rfl ?_
        refine SPL_gu rfl rfl rfl ?_
        refine SPL_gu rfl rfl rfl ?_
        refine SPL_gu rfl rfl rfl ?_
        refine SPL_gu rfl rfl rfl ?_
        refine SPL_gu rfl rfl rfl ?_
        refine SPL_gn rfl rfl rfl rfl ?_
        refine SPL_y (y_pick_f rfl rfl) rfl ?_
        refine SPL_nil ?_
        refine thenP_n ?_
        refine SP_cond_f rfl ?_
        refine SP_skip ?_
        refine thenP_n ?_
        refine SP_seq ?_
        unfold shutZ at hsh
        rw [if_neg h7_1] at hsh
        injection hsh with hsh
        subst hsh
        dsimp only [cond_false] at hP
        refine SP_region ?_
        refine SPL_y (y_move rfl) rfl ?_
        refine SPL_y (y_move rfl) rfl ?_
        obtain ⟨v1, m, hq, hP⟩ := bnd2 hP
        refine SPL_one rfl (SP1_call (hr.stmt hq hA) Tryz.call155 rfl rfl (by repeat (first | exact Part.nil _ | (apply Part.cons; with_reducible (first | exact P0 | exact P1 | exact P2 | exact P3 | exact P4 | exact P5 | exact P6 | exact P7 | exact P8 | exact P9 | exact P10 | exact P11 | exact P12 | exact P13 | exact P14 | exact P15 | exact P16 | exact P17 | exact P18 | exact P19 | exact P20 | exact P21 | exact P22 | exact P23)) | (apply Part.flat; simp only [List.cons_append, List.nil_append]) | (apply Part.cons; (first | exact P0 | exact P1 | exact P2 | exact P3 | exact P4 | exact P5 | exact P6 | exact P7 | exact P8 | exact P9 | exact P10 | exact P11 | exact P12 | exact P13 | exact P14 | exact P15 | exact P16 | exact P17 | exact P18 | exact P19 | exact P20 | exact P21 | exact P22 | exact P23)) | (apply Part.nilc))) ?_)
        rintro v post H' ⟨rfl, nk, nc, sp, hA, rfl⟩ hH
        try simp only [List.cons_append, List.nil_append] at hH
        subst hH
        refine SPL_y (y_assign rfl) rfl ?_
        refine SPL_nil ?_
        refine thenP_n ?_
        refine SP_seq ?_
        refine SP_seq ?_
        refine SP_region ?_
        refine SPL_y (y_move rfl) rfl ?_
        refine SPL_y (y_nil rfl) rfl ?_
        refine SPL_y (y_fa fld_195_5 rfl) rfl ?_
        refine SPL_y (y_load Tryz.isAgg30 rfl (by repeat (first | exact Cell.amid hpre rfl | exact Cell.head rfl | apply Cell.tail))) rfl ?_
        refine SPL_if (y_neq rfl rfl) rfl ?_ ?_
        · intro h11_4
          first | rw [if_pos h11_4] at hP | rw [if_neg h11_4] at hP | skip
          refine SPL_nil ?_
          refine thenP_n ?_
          refine SP_cond_t rfl ?_
          refine SP_seq ?_
          refine SP_region ?_
          refine SPL_y (y_assign rfl) rfl ?_
          refine SPL_nil ?_
          refine thenP_n ?_
          refine SP_ret ?_
          refine thenP_ret (inBlockP_ret (thenP_ret (inBlockP_ret (thenP_ret (bodyP_ret (Res1 rfl rfl) (Part.refl _) ?_)))))
          first | exact ⟨rfl, _, _, _, hA, rfl⟩ | (injection hP with hP; injection hP with h1 h2; subst h1; subst h2; exact ⟨rfl, _, _, _, hA, rfl⟩)
        intro h11_4
        first | rw [if_neg h11_4] at hP | rw [if_pos (Decidable.not_not.1 h11_4)] at hP | skip
        refine SPL_nil ?_
        refine thenP_n ?_
        refine SP_cond_f rfl ?_
        refine SP_skip ?_
        refine thenP_n ?_
        refine SP_seq ?_
        refine SP_seq ?_
        refine SP_region ?_
        refine SPL_y (y_move rfl) rfl ?_
        refine SPL_if (y_eql rfl rfl) rfl ?_ ?_
        · intro h13_1
          first | rw [if_pos h13_1] at hP | rw [if_neg h13_1] at hP | skip
          refine SPL_nil ?_
          refine thenP_n ?_
          refine SP_cond_t rfl ?_
          refine SP_region ?_
          refine SPL_y (y_move rfl) rfl ?_
          refine SPL_y (y_assign rfl) rfl ?_
          refine SPL_nil ?_
          refine thenP_n ?_
          refine SP_region ?_
          refine SPL_y (y_move rfl) rfl ?_
          refine SPL_y (y_assign rfl) rfl ?_
          refine SPL_nil ?_
          refine inBlockP_n ?_
          refine thenP_n ?_
          exact Again.intro ((n, v1, v1, m, nk, nc, sp)) (⟨hA, hP⟩) (by dsimp only; omega) (by repeat (first | exact Sub.nil _ | refine Sub.cons rfl ?_)) (by repeat (first | exact Part.nil _ | (apply Part.cons; with_reducible (first | exact P0 | exact P1 | exact P2 | exact P3 | exact P4 | exact P5 | exact P6 | exact P7 | exact P8 | exact P9 | exact P10 | exact P11 | exact P12 | exact P13 | exact P14 | exact P15 | exact P16 | exact P17 | exact P18 | exact P19 | exact P20 | exact P21 | exact P22 | exact P23)) | (apply Part.flat; simp only [List.cons_append, List.nil_append]) | (apply Part.cons; (first | exact P0 | exact P1 | exact P2 | exact P3 | exact P4 | exact P5 | exact P6 | exact P7 | exact P8 | exact P9 | exact P10 | exact P11 | exact P12 | exact P13 | exact P14 | exact P15 | exact P16 | exact P17 | exact P18 | exact P19 | exact P20 | exact P21 | exact P22 | exact P23)) | (apply Part.nilc)))
        intro h13_1
        first | rw [if_neg h13_1] at hP | rw [if_pos (Decidable.not_not.1 h13_1)] at hP | skip
        refine SPL_nil ?_
        refine thenP_n ?_
        refine SP_cond_f rfl ?_
        obtain ⟨m1, hq, hP2⟩ := bnd1 hP
        clear hP
        have hP := hP2
        clear hP2
        obtain ⟨la, hla, hle, hm⟩ := setNx_some hq
        first | subst hle | (obtain rfl : la = xi := by omega)
        refine SP_region ?_
        refine SPL_y (y_move rfl) rfl ?_
        refine SPL_y (y_nil rfl) rfl ?_
        refine SPL_y (y_fa fld_195_4 rfl) rfl ?_
        refine SPL_y (y_load Tryz.isAgg65 rfl (by repeat (first | exact Cell.amid hpre rfl | exact Cell.head rfl | apply Cell.tail))) rfl ?_
        refine SPL_y (y_move rfl) rfl ?_
        refine SPL_y (y_move rfl) rfl ?_
        refine SPL_y (y_ia Tryz.underlying65 Tryz.sizeOf158 rfl rfl (by omega)) rfl ?_
        refine SPL_y (y_fa fld_158_4 rfl) rfl ?_
        refine SPL_one rfl (SP1_storeF (x := { m.nodes[la] with next := v1 }) ndV_len Tryz.sizeOf3 rfl rfl rfl rfl hla (by decide) rfl (by first | exact U0 | exact U1 | exact U2 | exact U3 | exact U4 | exact U5 | exact U6 | exact U7 | exact U8 | exact U9 | exact U10 | exact U11 | exact U12 | exact U13 | exact U14 | exact U15 | exact U16 | exact U17 | exact U18 | exact U19 | exact U20 | exact U21 | exact U22 | exact U23) ?_)
        rw [pzb_set x nk nc hm, pzn_set nk sp hm]
        have hA := NzOk.setm hA hm
        obtain ⟨m, hmm⟩ : ∃ q, q = m1 := ⟨_, rfl⟩
        subst hmm
        clear hm hq
        refine SPL_nil ?_
        refine thenP_n ?_
        refine SP_region ?_
        refine SPL_y (y_move rfl) rfl ?_
        refine SPL_y (y_assign rfl) rfl ?_
        refine SPL_nil ?_
        refine inBlockP_n ?_
        refine thenP_n ?_
        exact Again.intro ((n, first, v1, m, nk, nc, sp)) (⟨hA, hP⟩) (by dsimp only; omega) (by repeat (first | exact Sub.nil _ | refine Sub.cons rfl ?_)) (by repeat (first | exact Part.nil _ | (apply Part.cons; with_reducible (first | exact P0 | exact P1 | exact P2 | exact P3 | exact P4 | exact P5 | exact P6 | exact P7 | exact P8 | exact P9 | exact P10 | exact P11 | exact P12 | exact P13 | exact P14 | exact P15 | exact P16 | exact P17 | exact P18 | exact P19 | exact P20 | exact P21 | exact P22 | exact P23)) | (apply Part.flat; simp only [List.cons_append, List.nil_append]) | (apply Part.cons; (first | exact P0 | exact P1 | exact P2 | exact P3 | exact P4 | exact P5 | exact P6 | exact P7 | exact P8 | exact P9 | exact P10 | exact P11 | exact P12 | exact P13 | exact P14 | exact P15 | exact P16 | exact P17 | exact P18 | exact P19 | exact P20 | exact P21 | exact P22 | exact P23)) | (apply Part.nilc)))
      intro h7_1
      first | rw [if_pos h7_1] at hP | rw [if_neg h7_1] at hP | skip
      unfold shutZ at hsh
      rw [if_pos h7_1] at hsh
      obtain ⟨d, hd, hs2⟩ := bnd1 hsh
      clear hsh
      obtain ⟨xi, hxi, rfl, hde⟩ := nodeZ_some hd
      refine SPL_y (y_move rfl) rfl ?_
      refine SPL_gy rfl rfl ?_
      refine SPL_y (y_move rfl) rfl ?_
      refine SPL_gy rfl rfl ?_
      refine SPL_y (y_nil rfl) rfl ?_
      refine SPL_gy rfl rfl ?_
      refine SPL_y (y_fa fld_195_4 rfl) rfl ?_
      refine SPL_gy rfl rfl ?_
      refine SPL_y (y_load Tryz.isAgg65 rfl (by repeat (first | exact Cell.amid hpre rfl | exact Cell.head rfl | apply Cell.tail))) rfl ?_
      refine SPL_gy rfl rfl ?_
      refine SPL_y (y_move rfl) rfl ?_
      refine SPL_gy rfl rfl ?_
      refine SPL_y (y_ia Tryz.underlying65 Tryz.sizeOf158 rfl rfl (by omega)) rfl ?_
      refine SPL_gy rfl rfl ?_
      refine SPL_y (y_fa fld_158_0 rfl) rfl ?_
      refine SPL_gy rfl rfl ?_
      refine SPL_y (y_load Tryz.isAgg3 rfl (by repeat (first | exact (flat_cellsE ndV_len rfl hxi hde).cell rfl | apply Cell.tail))) rfl ?_
      refine SPL_gy rfl rfl ?_
      refine SPL_if (y_eql rfl rfl) rfl ?_ ?_
      · intro h7_11
        first | rw [if_pos h7_11] at hP | rw [if_neg h7_11] at hP | skip
        refine SPL_gy rfl rfl ?_
        refine SPL_y (y_move rfl) rfl ?_
        refine SPL_gn rfl rfl rfl rfl ?_
        refine SPL_gn rfl rfl rfl rfl ?_
        refine SPL_gn rfl rfl rfl rfl ?_
        refine SPL_gn rfl rfl rfl rfl ?_
        refine SPL_gn rfl rfl rfl rfl ?_
        refine SPL_gn rfl rfl rfl rfl ?_
        refine SPL_gn rfl rfl rfl rfl ?_
        refine SPL_gn rfl rfl rfl rfl ?_
        refine SPL_gn rfl rfl rfl rfl ?_
        refine SPL_gy rfl rfl ?_
        refine SPL_y (y_pick_t rfl rfl) rfl ?_
        refine SPL_y (y_pick_t rfl rfl) rfl ?_
        refine SPL_nil ?_
        refine thenP_n ?_
        refine SP_cond_t rfl ?_
        refine SP_seq ?_
        obtain rfl : sh = true := by have e := Option.some.inj hs2; rw [← e]; exact decide_eq_true (by omega)
        dsimp only [cond_true] at hP
        refine SP_region ?_
        refine SPL_y (y_move rfl) rfl ?_
        have hn := fail_nodes (15) m
        try dsimp only at hn
        refine SPL_one rfl (SP1_call (pz_fail x _ _ (15) m) Tryz.call90 rfl rfl (by repeat (first | exact Part.nil _ | (apply Part.cons; with_reducible (first | exact P0 | exact P1 | exact P2 | exact P3 | exact P4 | exact P5 | exact P6 | exact P7 | exact P8 | exact P9 | exact P10 | exact P11 | exact P12 | exact P13 | exact P14 | exact P15 | exact P16 | exact P17 | exact P18 | exact P19 | exact P20 | exact P21 | exact P22 | exact P23)) | (apply Part.flat; simp only [List.cons_append, List.nil_append]) | (apply Part.cons; (first | exact P0 | exact P1 | exact P2 | exact P3 | exact P4 | exact P5 | exact P6 | exact P7 | exact P8 | exact P9 | exact P10 | exact P11 | exact P12 | exact P13 | exact P14 | exact P15 | exact P16 | exact P17 | exact P18 | exact P19 | exact P20 | exact P21 | exact P22 | exact P23)) | (apply Part.nilc))) ?_)
        rintro v post H' ⟨rfl, rfl⟩ hH
        try simp only [List.cons_append, List.nil_append] at hH
        subst hH
        rw [← hn] at hA ⊢
        clear hn
        refine SPL_nil ?_
        refine thenP_n ?_
        refine SP_seq ?_
        refine SP_region ?_
        refine SPL_y (y_assign rfl) rfl ?_
        refine SPL_nil ?_
        refine thenP_n ?_
        refine SP_ret ?_
        refine thenP_ret (inBlockP_ret (thenP_ret (inBlockP_ret (thenP_ret (bodyP_ret (Res1 rfl rfl) (Part.refl _) ?_)))))
        first | exact ⟨rfl, _, _, _, hA, rfl⟩ | (injection hP with hP; injection hP with h1 h2; subst h1; subst h2; exact ⟨rfl, _, _, _, hA, rfl⟩)
      intro h7_11
      first | rw [if_neg h7_11] at hP | rw [if_pos (Decidable.not_not.1 h7_11)] at hP | skip
      refine SPL_gy rfl rfl ?_
      refine SPL_y (y_move rfl) rfl ?_
      refine SPL_gy rfl rfl ?_
      refine SPL_y (y_move rfl) rfl ?_
      refine SPL_gy rfl rfl ?_
      refine SPL_y (y_nil rfl) rfl ?_
      refine SPL_gy rfl rfl ?_
      refine SPL_y (y_fa fld_195_4 rfl) rfl ?_
      refine SPL_gy rfl rfl ?_
      refine SPL_y (y_load Tryz.isAgg65 rfl (by repeat (first | exact Cell.amid hpre rfl | exact Cell.head rfl | apply Cell.tail))) rfl ?_
      refine SPL_gy rfl rfl ?_
      refine SPL_y (y_move rfl) rfl ?_
      refine SPL_gy rfl rfl ?_
      refine SPL_y (y_ia Tryz.underlying65 Tryz.sizeOf158 rfl rfl (by omega)) rfl ?_
      refine SPL_gy rfl rfl ?_
      refine SPL_y (y_fa fld_158_0 rfl) rfl ?_
      refine SPL_gy rfl rfl ?_
      refine SPL_y (y_load Tryz.isAgg3 rfl (by repeat (first | exact (flat_cellsE ndV_len rfl hxi hde).cell rfl | apply Cell.tail))) rfl ?_
      refine SPL_gy rfl rfl ?_
      refine SPL_if (y_eql rfl rfl) rfl ?_ ?_
      · intro h7_21
        first | rw [if_pos h7_21] at hP | rw [if_neg h7_21] at hP | skip
        refine SPL_gy rfl rfl ?_
        refine SPL_y (y_pick_f rfl rfl) rfl ?_
        refine SPL_y (y_pick_t rfl rfl) rfl ?_
        refine SPL_nil ?_
        refine thenP_n ?_
        refine SP_cond_t rfl ?_
        refine SP_seq ?_
        obtain rfl : sh = true := by have e := Option.some.inj hs2; rw [← e]; exact decide_eq_true (by omega)
        dsimp only [cond_true] at hP
        refine SP_region ?_
        refine SPL_y (y_move rfl) rfl ?_
        have hn := fail_nodes (15) m
        try dsimp only at hn
        refine SPL_one rfl (SP1_call (pz_fail x _ _ (15) m) Tryz.call90 rfl rfl (by repeat (first | exact Part.nil _ | (apply Part.cons; with_reducible (first | exact P0 | exact P1 | exact P2 | exact P3 | exact P4 | exact P5 | exact P6 | exact P7 | exact P8 | exact P9 | exact P10 | exact P11 | exact P12 | exact P13 | exact P14 | exact P15 | exact P16 | exact P17 | exact P18 | exact P19 | exact P20 | exact P21 | exact P22 | exact P23)) | (apply Part.flat; simp only [List.cons_append, List.nil_append]) | (apply Part.cons; (first | exact P0 | exact P1 | exact P2 | exact P3 | exact P4 | exact P5 | exact P6 | exact P7 | exact P8 | exact P9 | exact P10 | exact P11 | exact P12 | exact P13 | exact P14 | exact P15 | exact P16 | exact P17 | exact P18 | exact P19 | exact P20 | exact P21 | exact P22 | exact P23)) | (apply Part.nilc))) ?_)
        rintro v post H' ⟨rfl, rfl⟩ hH
        try simp only [List.cons_append, List.nil_append] at hH
        subst hH
        rw [← hn] at hA ⊢
        clear hn
        refine SPL_nil ?_
        refine thenP_n ?_
        refine SP_seq ?_
        refine SP_region ?_
        refine SPL_y (y_assign rfl) rfl ?_
        refine SPL_nil ?_
        refine thenP_n ?_
        refine SP_ret ?_
        refine thenP_ret (inBlockP_ret (thenP_ret (inBlockP_ret (thenP_ret (bodyP_ret (Res1 rfl rfl) (Part.refl _) ?_)))))
        first | exact ⟨rfl, _, _, _, hA, rfl⟩ | (injection hP with hP; injection hP with h1 h2; subst h1; subst h2; exact ⟨rfl, _, _, _, hA, rfl⟩)
      intro h7_21
      first | rw [if_neg h7_21] at hP | rw [if_pos (Decidable.not_not.1 h7_21)] at hP | skip
      refine SPL_gy rfl rfl ?_
      refine SPL_y (y_pick_f rfl rfl) rfl ?_
      refine SPL_y (y_pick_t rfl rfl) rfl ?_
      refine SPL_nil ?_
      refine thenP_n ?_
      refine SP_cond_f rfl ?_
      refine SP_skip ?_
      refine thenP_n ?_
      refine SP_seq ?_
      obtain rfl : sh = false := by have e := Option.some.inj hs2; rw [← e]; exact decide_eq_false (by omega)
      dsimp only [cond_false] at hP
      refine SP_region ?_
      refine SPL_y (y_move rfl) rfl ?_
      refine SPL_y (y_move rfl) rfl ?_
      obtain ⟨v1, m, hq, hP⟩ := bnd2 hP
      refine SPL_one rfl (SP1_call (hr.stmt hq hA) Tryz.call155 rfl rfl (by repeat (first | exact Part.nil _ | (apply Part.cons; with_reducible (first | exact P0 | exact P1 | exact P2 | exact P3 | exact P4 | exact P5 | exact P6 | exact P7 | exact P8 | exact P9 | exact P10 | exact P11 | exact P12 | exact P13 | exact P14 | exact P15 | exact P16 | exact P17 | exact P18 | exact P19 | exact P20 | exact P21 | exact P22 | exact P23)) | (apply Part.flat; simp only [List.cons_append, List.nil_append]) | (apply Part.cons; (first | exact P0 | exact P1 | exact P2 | exact P3 | exact P4 | exact P5 | exact P6 | exact P7 | exact P8 | exact P9 | exact P10 | exact P11 | exact P12 | exact P13 | exact P14 | exact P15 | exact P16 | exact P17 | exact P18 | exact P19 | exact P20 | exact P21 | exact P22 | exact P23)) | (apply Part.nilc))) ?_)
      rintro v post H' ⟨rfl, nk, nc, sp, hA, rfl⟩ hH
      try simp only [List.cons_append, List.nil_append] at hH
      subst hH
      refine SPL_y (y_assign rfl) rfl ?_
      refine SPL_nil ?_
      refine thenP_n ?_
      refine SP_seq ?_
      refine SP_seq ?_
      refine SP_region ?_
      refine SPL_y (y_move rfl) rfl ?_
      refine SPL_y (y_nil rfl) rfl ?_
      refine SPL_y (y_fa fld_195_5 rfl) rfl ?_
      refine SPL_y (y_load Tryz.isAgg30 rfl (by repeat (first | exact Cell.amid hpre rfl | exact Cell.head rfl | apply Cell.tail))) rfl ?_
      refine SPL_if (y_neq rfl rfl) rfl ?_ ?_
      · intro h11_4
        first | rw [if_pos h11_4] at hP | rw [if_neg h11_4] at hP | skip
        refine SPL_nil ?_
        refine thenP_n ?_
        refine SP_cond_t rfl ?_
        refine SP_seq ?_
        refine SP_region ?_
        refine SPL_y (y_assign rfl) rfl ?_
        refine SPL_nil ?_
        refine thenP_n ?_
        refine SP_ret ?_
        refine thenP_ret (inBlockP_ret (thenP_ret (inBlockP_ret (thenP_ret (bodyP_ret (Res1 rfl rfl) (Part.refl _) ?_)))))
        first | exact ⟨rfl, _, _, _, hA, rfl⟩ | (injection hP with hP; injection hP with h1 h2; subst h1; subst h2; exact ⟨rfl, _, _, _, hA, rfl⟩)
      intro h11_4
      first | rw [if_neg h11_4] at hP | rw [if_pos (Decidable.not_not.1 h11_4)] at hP | skip
      refine SPL_nil ?_
      refine thenP_n ?_
      refine SP_cond_f rfl ?_
      refine SP_skip ?_
      refine thenP_n ?_
      refine SP_seq ?_
      refine SP_seq ?_
      refine SP_region ?_
      refine SPL_y (y_move rfl) rfl ?_
      refine SPL_if (y_eql rfl rfl) rfl ?_ ?_
      · intro h13_1
        first | rw [if_pos h13_1] at hP | rw [if_neg h13_1] at hP | skip
        refine SPL_nil ?_
        refine thenP_n ?_
        refine SP_cond_t rfl ?_
        refine SP_region ?_
        refine SPL_y (y_move rfl) rfl ?_
        refine SPL_y (y_assign rfl) rfl ?_
        refine SPL_nil ?_
        refine thenP_n ?_
        refine SP_region ?_
        refine SPL_y (y_move rfl) rfl ?_
        refine SPL_y (y_assign rfl) rfl ?_
        refine SPL_nil ?_
        refine inBlockP_n ?_
        refine thenP_n ?_
        exact Again.intro ((n, v1, v1, m, nk, nc, sp)) (⟨hA, hP⟩) (by dsimp only; omega) (by repeat (first | exact Sub.nil _ | refine Sub.cons rfl ?_)) (by repeat (first | exact Part.nil _ | (apply Part.cons; with_reducible (first | exact P0 | exact P1 | exact P2 | exact P3 | exact P4 | exact P5 | exact P6 | exact P7 | exact P8 | exact P9 | exact P10 | exact P11 | exact P12 | exact P13 | exact P14 | exact P15 | exact P16 | exact P17 | exact P18 | exact P19 | exact P20 | exact P21 | exact P22 | exact P23)) | (apply Part.flat; simp only [List.cons_append, List.nil_append]) | (apply Part.cons; (first | exact P0 | exact P1 | exact P2 | exact P3 | exact P4 | exact P5 | exact P6 | exact P7 | exact P8 | exact P9 | exact P10 | exact P11 | exact P12 | exact P13 | exact P14 | exact P15 | exact P16 | exact P17 | exact P18 | exact P19 | exact P20 | exact P21 | exact P22 | exact P23)) | (apply Part.nilc)))
      intro h13_1
      first | rw [if_neg h13_1] at hP | rw [if_pos (Decidable.not_not.1 h13_1)] at hP | skip
      refine SPL_nil ?_
      refine thenP_n ?_
      refine SP_cond_f rfl ?_
      obtain ⟨m1, hq, hP2⟩ := bnd1 hP
      clear hP
      have hP := hP2
      clear hP2
      obtain ⟨la, hla, hle, hm⟩ := setNx_some hq
      first | subst hle | (obtain rfl : la = xi := by omega)
      refine SP_region ?_
      refine SPL_y (y_move rfl) rfl ?_
      refine SPL_y (y_nil rfl) rfl ?_
      refine SPL_y (y_fa fld_195_4 rfl) rfl ?_
      refine SPL_y (y_load Tryz.isAgg65 rfl (by repeat (first | exact Cell.amid hpre rfl | exact Cell.head rfl | apply Cell.tail))) rfl ?_
      refine SPL_y (y_move rfl) rfl ?_
      refine SPL_y (y_move rfl) rfl ?_
      refine SPL_y (y_ia Tryz.underlying65 Tryz.sizeOf158 rfl rfl (by omega)) rfl ?_
      refine SPL_y (y_fa fld_158_4 rfl) rfl ?_
      refine SPL_one rfl (SP1_storeF (x := { m.nodes[la] with next := v1 }) ndV_len Tryz.sizeOf3 rfl rfl rfl rfl hla (by decide) rfl (by first | exact U0 | exact U1 | exact U2 | exact U3 | exact U4 | exact U5 | exact U6 | exact U7 | exact U8 | exact U9 | exact U10 | exact U11 | exact U12 | exact U13 | exact U14 | exact U15 | exact U16 | exact U17 | exact U18 | exact U19 | exact U20 | exact U21 | exact U22 | exact U23) ?_)
      rw [pzb_set x nk nc hm, pzn_set nk sp hm]
      have hA := NzOk.setm hA hm
      obtain ⟨m, hmm⟩ : ∃ q, q = m1 := ⟨_, rfl⟩
      subst hmm
      clear hm hq
      refine SPL_nil ?_
      refine thenP_n ?_
      refine SP_region ?_
      refine SPL_y (y_move rfl) rfl ?_
      refine SPL_y (y_assign rfl) rfl ?_
      refine SPL_nil ?_
      refine inBlockP_n ?_
      refine thenP_n ?_
      exact Again.intro ((n, first, v1, m, nk, nc, sp)) (⟨hA, hP⟩) (by dsimp only; omega) (by repeat (first | exact Sub.nil _ | refine Sub.cons rfl ?_)) (by repeat (first | exact Part.nil _ | (apply Part.cons; with_reducible (first | exact P0 | exact P1 | exact P2 | exact P3 | exact P4 | exact P5 | exact P6 | exact P7 | exact P8 | exact P9 | exact P10 | exact P11 | exact P12 | exact P13 | exact P14 | exact P15 | exact P16 | exact P17 | exact P18 | exact P19 | exact P20 | exact P21 | exact P22 | exact P23)) | (apply Part.flat; simp only [List.cons_append, List.nil_append]) | (apply Part.cons; (first | exact P0 | exact P1 | exact P2 | exact P3 | exact P4 | exact P5 | exact P6 | exact P7 | exact P8 | exact P9 | exact P10 | exact P11 | exact P12 | exact P13 | exact P14 | exact P15 | exact P16 | exact P17 | exact P18 | exact P19 | exact P20 | exact P21 | exact P22 | exact P23)) | (apply Part.nilc)))
    · try simp only [List.cons_append, List.nil_append] at hH
      subst hH
      try dsimp only [cond_true, cond_false, Bool.true_or, Bool.false_or] at hP
      refine SPL_y (y_not_t rfl) rfl ?_
      refine SPL_nil ?_
      refine thenP_n ?_
      refine SP_cond_f rfl ?_
      refine SP_exit ?_
      refine thenP_exit ?_
      refine thenP_exit ?_
      refine inBlockP_hit ?_
      refine thenP_n ?_
      refine SP_seq ?_
      refine SP_region ?_
      refine SPL_y (y_move rfl) rfl ?_
      refine SPL_y (y_move rfl) rfl ?_
      refine SPL_y (y_nil rfl) rfl ?_
      refine SPL_y (y_fa fld_195_7 rfl) rfl ?_
      refine SPL_one rfl (SP1_store Tryz.sizeOf3 rfl rfl rfl (by first | exact U0 | exact U1 | exact U2 | exact U3 | exact U4 | exact U5 | exact U6 | exact U7 | exact U8 | exact U9 | exact U10 | exact U11 | exact U12 | exact U13 | exact U14 | exact U15 | exact U16 | exact U17 | exact U18 | exact U19 | exact U20 | exact U21 | exact U22 | exact U23) (by rfl) ?_)
      refine SPL_nil ?_
      refine thenP_n ?_
      refine SP_seq ?_
      refine SP_region ?_
      refine SPL_y (y_move rfl) rfl ?_
      refine SPL_y (y_assign rfl) rfl ?_
      refine SPL_nil ?_
      refine thenP_n ?_
      refine SP_ret ?_
      refine bodyP_ret (Res1 rfl rfl) (Part.refl _) ?_
      first | exact ⟨rfl, _, _, _, hA, rfl⟩ | (injection hP with hP; injection hP with h1 h2; subst h1; subst h2; exact ⟨rfl, _, _, _, hA, rfl⟩)
  · try simp only [List.cons_append, List.nil_append] at hH
    subst hH
    try dsimp only [cond_true, cond_false, Bool.true_or, Bool.false_or] at hP
    rw [← hn] at hA ⊢
    clear hn
    refine SPL_nil ?_
    refine thenP_n ?_
    refine SP_cond_t rfl ?_
    refine SP_seq ?_
    refine SP_region ?_
    refine SPL_y (y_assign rfl) rfl ?_
    refine SPL_nil ?_
    refine thenP_n ?_
    refine SP_ret ?_
    refine thenP_ret (bodyP_ret (Res1 rfl rfl) (Part.refl _) ?_)
    first | exact ⟨rfl, _, _, _, hA, rfl⟩ | (injection hP with hP; injection hP with h1 h2; subst h1; subst h2; exact ⟨rfl, _, _, _, hA, rfl⟩)

theorem pz_stmt (x : ZX) (rc : RZ) (hr : PK x rc) {n : Nat} {lv : Int} {nk nc : Nat} {sp : List Value} {m m' : PZ} {v0 : Int} (hP : stmtZ x.src rc lv m = some (v0, m')) (hA : NzOk nc m.nodes sp) : Spec Tryz.prog 155 [pt x.b, I lv] [pzb x nk nc m, pzn nk m.nodes sp] (Ret (ZRet x m' (I v0))) := by
  unfold stmtZ at hP
  obtain ⟨hlv, hP⟩ := grd hP
  refine Spec_enter Tryz.func155 rfl Tryz.ntmps155 rfl ?_
  show SP _ _ _ _ _ [(0, _), (1, _)] _
  refine SP_seq ?_
  refine SP_region ?_
  refine SPL_y (y_assign rfl) rfl ?_
  refine SPL_nil ?_
  refine thenP_n ?_
  refine SP_seq ?_
  refine SP_region ?_
  refine SPL_y (y_move rfl) rfl ?_
  refine SPL_y (y_nil rfl) rfl ?_
  refine SPL_y (y_fa fld_195_3 rfl) rfl ?_
  refine SPL_y (y_fa fld_193_3 rfl) rfl ?_
  refine SPL_y (y_load Tryz.isAgg3 rfl (by repeat (first | exact Cell.amid hpre rfl | exact Cell.head rfl | apply Cell.tail))) rfl ?_
  refine SPL_y (y_assign rfl) rfl ?_
  refine SPL_nil ?_
  refine thenP_n ?_
  refine SP_seq ?_
  refine SP_seq ?_
  refine SP_region ?_
  refine SPL_y (y_move rfl) rfl ?_
  refine SPL_one rfl (SP1_call (pz_is x _ _ tLocal m) Tryz.call217 rfl rfl (by repeat (first | exact Part.nil _ | (apply Part.cons; with_reducible (first | exact P0 | exact P1 | exact P2 | exact P3 | exact P4 | exact P5 | exact P6 | exact P7 | exact P8 | exact P9 | exact P10 | exact P11 | exact P12 | exact P13 | exact P14 | exact P15 | exact P16 | exact P17 | exact P18 | exact P19 | exact P20 | exact P21 | exact P22 | exact P23)) | (apply Part.flat; simp only [List.cons_append, List.nil_append]) | (apply Part.cons; (first | exact P0 | exact P1 | exact P2 | exact P3 | exact P4 | exact P5 | exact P6 | exact P7 | exact P8 | exact P9 | exact P10 | exact P11 | exact P12 | exact P13 | exact P14 | exact P15 | exact P16 | exact P17 | exact P18 | exact P19 | exact P20 | exact P21 | exact P22 | exact P23)) | (apply Part.nilc))) ?_)
  rintro v post H' ⟨rfl, rfl⟩ hH
  generalize hw : isZ tLocal m = w at hP ⊢
  rcases w with _ | _
  · try simp only [List.cons_append, List.nil_append] at hH
    subst hH
    try dsimp only [cond_true, cond_false, Bool.true_or, Bool.false_or] at hP
    refine SPL_nil ?_
    refine thenP_n ?_
    refine SP_cond_f rfl ?_
    refine SP_skip ?_
    refine thenP_n ?_
    refine SP_seq ?_
    refine SP_seq ?_
    refine SP_region ?_
    refine SPL_y (y_move rfl) rfl ?_
    refine SPL_one rfl (SP1_call (pz_is x _ _ tIf m) Tryz.call217 rfl rfl (by repeat (first | exact Part.nil _ | (apply Part.cons; with_reducible (first | exact P0 | exact P1 | exact P2 | exact P3 | exact P4 | exact P5 | exact P6 | exact P7 | exact P8 | exact P9 | exact P10 | exact P11 | exact P12 | exact P13 | exact P14 | exact P15 | exact P16 | exact P17 | exact P18 | exact P19 | exact P20 | exact P21 | exact P22 | exact P23)) | (apply Part.flat; simp only [List.cons_append, List.nil_append]) | (apply Part.cons; (first | exact P0 | exact P1 | exact P2 | exact P3 | exact P4 | exact P5 | exact P6 | exact P7 | exact P8 | exact P9 | exact P10 | exact P11 | exact P12 | exact P13 | exact P14 | exact P15 | exact P16 | exact P17 | exact P18 | exact P19 | exact P20 | exact P21 | exact P22 | exact P23)) | (apply Part.nilc))) ?_)
    rintro v post H' ⟨rfl, rfl⟩ hH
    generalize hw : isZ tIf m = w at hP ⊢
    rcases w with _ | _
    · try simp only [List.cons_append, List.nil_append] at hH
      subst hH
      try dsimp only [cond_true, cond_false, Bool.true_or, Bool.false_or] at hP
      refine SPL_nil ?_
      refine thenP_n ?_
      refine SP_cond_f rfl ?_
      refine SP_skip ?_
      refine thenP_n ?_
      refine SP_seq ?_
      refine SP_seq ?_
      refine SP_region ?_
      refine SPL_y (y_move rfl) rfl ?_
      refine SPL_one rfl (SP1_call (pz_is x _ _ tFor m) Tryz.call217 rfl rfl (by repeat (first | exact Part.nil _ | (apply Part.cons; with_reducible (first | exact P0 | exact P1 | exact P2 | exact P3 | exact P4 | exact P5 | exact P6 | exact P7 | exact P8 | exact P9 | exact P10 | exact P11 | exact P12 | exact P13 | exact P14 | exact P15 | exact P16 | exact P17 | exact P18 | exact P19 | exact P20 | exact P21 | exact P22 | exact P23)) | (apply Part.flat; simp only [List.cons_append, List.nil_append]) | (apply Part.cons; (first | exact P0 | exact P1 | exact P2 | exact P3 | exact P4 | exact P5 | exact P6 | exact P7 | exact P8 | exact P9 | exact P10 | exact P11 | exact P12 | exact P13 | exact P14 | exact P15 | exact P16 | exact P17 | exact P18 | exact P19 | exact P20 | exact P21 | exact P22 | exact P23)) | (apply Part.nilc))) ?_)
      rintro v post H' ⟨rfl, rfl⟩ hH
      generalize hw : isZ tFor m = w at hP ⊢
      rcases w with _ | _
      · try simp only [List.cons_append, List.nil_append] at hH
        subst hH
        try dsimp only [cond_true, cond_false, Bool.true_or, Bool.false_or] at hP
        refine SPL_nil ?_
        refine thenP_n ?_
        refine SP_cond_f rfl ?_
        refine SP_skip ?_
        refine thenP_n ?_
        refine SP_seq ?_
        refine SP_seq ?_
        refine SP_region ?_
        refine SPL_y (y_move rfl) rfl ?_
        refine SPL_one rfl (SP1_call (pz_is x _ _ tWhile m) Tryz.call217 rfl rfl (by repeat (first | exact Part.nil _ | (apply Part.cons; with_reducible (first | exact P0 | exact P1 | exact P2 | exact P3 | exact P4 | exact P5 | exact P6 | exact P7 | exact P8 | exact P9 | exact P10 | exact P11 | exact P12 | exact P13 | exact P14 | exact P15 | exact P16 | exact P17 | exact P18 | exact P19 | exact P20 | exact P21 | exact P22 | exact P23)) | (apply Part.flat; simp only [List.cons_append, List.nil_append]) | (apply Part.cons; (first | exact P0 | exact P1 | exact P2 | exact P3 | exact P4 | exact P5 | exact P6 | exact P7 | exact P8 | exact P9 | exact P10 | exact P11 | exact P12 | exact P13 | exact P14 | exact P15 | exact P16 | exact P17 | exact P18 | exact P19 | exact P20 | exact P21 | exact P22 | exact P23)) | (apply Part.nilc))) ?_)
        rintro v post H' ⟨rfl, rfl⟩ hH
        generalize hw : isZ tWhile m = w at hP ⊢
        rcases w with _ | _
        · try simp only [List.cons_append, List.nil_append] at hH
          subst hH
          try dsimp only [cond_true, cond_false, Bool.true_or, Bool.false_or] at hP
          refine SPL_nil ?_
          refine thenP_n ?_
          refine SP_cond_f rfl ?_
          refine SP_skip ?_
          refine thenP_n ?_
          refine SP_seq ?_
          refine SP_seq ?_
          refine SP_region ?_
          refine SPL_y (y_move rfl) rfl ?_
          refine SPL_one rfl (SP1_call (pz_is x _ _ tBreak m) Tryz.call217 rfl rfl (by repeat (first | exact Part.nil _ | (apply Part.cons; with_reducible (first | exact P0 | exact P1 | exact P2 | exact P3 | exact P4 | exact P5 | exact P6 | exact P7 | exact P8 | exact P9 | exact P10 | exact P11 | exact P12 | exact P13 | exact P14 | exact P15 | exact P16 | exact P17 | exact P18 | exact P19 | exact P20 | exact P21 | exact P22 | exact P23)) | (apply Part.flat; simp only [List.cons_append, List.nil_append]) | (apply Part.cons; (first | exact P0 | exact P1 | exact P2 | exact P3 | exact P4 | exact P5 | exact P6 | exact P7 | exact P8 | exact P9 | exact P10 | exact P11 | exact P12 | exact P13 | exact P14 | exact P15 | exact P16 | exact P17 | exact P18 | exact P19 | exact P20 | exact P21 | exact P22 | exact P23)) | (apply Part.nilc))) ?_)
          rintro v post H' ⟨rfl, rfl⟩ hH
          generalize hw : isZ tBreak m = w at hP ⊢
          rcases w with _ | _
          · try simp only [List.cons_append, List.nil_append] at hH
            subst hH
            try dsimp only [cond_true, cond_false, Bool.true_or, Bool.false_or] at hP
            refine SPL_nil ?_
            refine thenP_n ?_
            refine SP_cond_f rfl ?_
            refine SP_skip ?_
            refine thenP_n ?_
            refine SP_seq ?_
            refine SP_seq ?_
            refine SP_region ?_
            refine SPL_y (y_move rfl) rfl ?_
            refine SPL_one rfl (SP1_call (pz_is x _ _ tReturn m) Tryz.call217 rfl rfl (by repeat (first | exact Part.nil _ | (apply Part.cons; with_reducible (first | exact P0 | exact P1 | exact P2 | exact P3 | exact P4 | exact P5 | exact P6 | exact P7 | exact P8 | exact P9 | exact P10 | exact P11 | exact P12 | exact P13 | exact P14 | exact P15 | exact P16 | exact P17 | exact P18 | exact P19 | exact P20 | exact P21 | exact P22 | exact P23)) | (apply Part.flat; simp only [List.cons_append, List.nil_append]) | (apply Part.cons; (first | exact P0 | exact P1 | exact P2 | exact P3 | exact P4 | exact P5 | exact P6 | exact P7 | exact P8 | exact P9 | exact P10 | exact P11 | exact P12 | exact P13 | exact P14 | exact P15 | exact P16 | exact P17 | exact P18 | exact P19 | exact P20 | exact P21 | exact P22 | exact P23)) | (apply Part.nilc))) ?_)
            rintro v post H' ⟨rfl, rfl⟩ hH
            generalize hw : isZ tReturn m = w at hP ⊢
            rcases w with _ | _
            · try simp only [List.cons_append, List.nil_append] at hH
              subst hH
              try dsimp only [cond_true, cond_false, Bool.true_or, Bool.false_or] at hP
              refine SPL_nil ?_
              refine thenP_n ?_
              refine SP_cond_f rfl ?_
              refine SP_skip ?_
              refine thenP_n ?_
              refine SP_seq ?_
              refine SP_region ?_
              refine SPL_y (y_move rfl) rfl ?_
              refine SPL_y (y_move rfl) rfl ?_
              refine SPL_y (y_add rfl rfl (by omega)) rfl ?_
              obtain ⟨v1, m, hq, hP⟩ := bnd2 hP
              refine SPL_one rfl (SP1_call (hr.post hq hA) Tryz.call224 rfl rfl (by repeat (first | exact Part.nil _ | (apply Part.cons; with_reducible (first | exact P0 | exact P1 | exact P2 | exact P3 | exact P4 | exact P5 | exact P6 | exact P7 | exact P8 | exact P9 | exact P10 | exact P11 | exact P12 | exact P13 | exact P14 | exact P15 | exact P16 | exact P17 | exact P18 | exact P19 | exact P20 | exact P21 | exact P22 | exact P23)) | (apply Part.flat; simp only [List.cons_append, List.nil_append]) | (apply Part.cons; (first | exact P0 | exact P1 | exact P2 | exact P3 | exact P4 | exact P5 | exact P6 | exact P7 | exact P8 | exact P9 | exact P10 | exact P11 | exact P12 | exact P13 | exact P14 | exact P15 | exact P16 | exact P17 | exact P18 | exact P19 | exact P20 | exact P21 | exact P22 | exact P23)) | (apply Part.nilc))) ?_)
              rintro v post H' ⟨rfl, nk, nc, sp, hA, rfl⟩ hH
              try simp only [List.cons_append, List.nil_append] at hH
              subst hH
              refine SPL_y (y_assign rfl) rfl ?_
              refine SPL_nil ?_
              refine thenP_n ?_
              refine SP_seq ?_
              refine SP_seq ?_
              refine SP_region ?_
              refine SPL_y (y_move rfl) rfl ?_
              refine SPL_y (y_nil rfl) rfl ?_
              refine SPL_y (y_fa fld_195_5 rfl) rfl ?_
              refine SPL_y (y_load Tryz.isAgg30 rfl (by repeat (first | exact Cell.amid hpre rfl | exact Cell.head rfl | apply Cell.tail))) rfl ?_
              refine SPL_if (y_neq rfl rfl) rfl ?_ ?_
              · intro h36_4
                first | rw [if_pos h36_4] at hP | rw [if_neg h36_4] at hP | skip
                refine SPL_nil ?_
                refine thenP_n ?_
                refine SP_cond_t rfl ?_
                refine SP_seq ?_
                refine SP_region ?_
                refine SPL_y (y_assign rfl) rfl ?_
                refine SPL_nil ?_
                refine thenP_n ?_
                refine SP_ret ?_
                refine thenP_ret (bodyP_ret (Res1 rfl rfl) (Part.refl _) ?_)
                first | exact ⟨rfl, _, _, _, hA, rfl⟩ | (injection hP with hP; injection hP with h1 h2; subst h1; subst h2; exact ⟨rfl, _, _, _, hA, rfl⟩)
              intro h36_4
              first | rw [if_neg h36_4] at hP | rw [if_pos (Decidable.not_not.1 h36_4)] at hP | skip
              as_aux_lemma =>
                refine SPL_nil ?_
                refine thenP_n ?_
                refine SP_cond_f rfl ?_
                refine SP_skip ?_
                refine thenP_n ?_
                refine SP_seq ?_
                refine SP_seq ?_
                refine SP_region ?_
                refine SPL_y (y_move rfl) rfl ?_
                refine SPL_one rfl (SP1_call (pz_is x _ _ tEq m) Tryz.call217 rfl rfl (by repeat (first | exact Part.nil _ | (apply Part.cons; with_reducible (first | exact P0 | exact P1 | exact P2 | exact P3 | exact P4 | exact P5 | exact P6 | exact P7 | exact P8 | exact P9 | exact P10 | exact P11 | exact P12 | exact P13 | exact P14 | exact P15 | exact P16 | exact P17 | exact P18 | exact P19 | exact P20 | exact P21 | exact P22 | exact P23)) | (apply Part.flat; simp only [List.cons_append, List.nil_append]) | (apply Part.cons; (first | exact P0 | exact P1 | exact P2 | exact P3 | exact P4 | exact P5 | exact P6 | exact P7 | exact P8 | exact P9 | exact P10 | exact P11 | exact P12 | exact P13 | exact P14 | exact P15 | exact P16 | exact P17 | exact P18 | exact P19 | exact P20 | exact P21 | exact P22 | exact P23)) | (apply Part.nilc))) ?_)
                rintro v post H' ⟨rfl, rfl⟩ hH
                generalize hw : isZ tEq m = w at hP ⊢
                rcases w with _ | _
                · try simp only [List.cons_append, List.nil_append] at hH
                  subst hH
                  try dsimp only [cond_true, cond_false, Bool.true_or, Bool.false_or] at hP
                  refine SPL_nil ?_
                  refine thenP_n ?_
                  refine SP_cond_f rfl ?_
                  refine SP_skip ?_
                  refine thenP_n ?_
                  refine SP_seq ?_
                  refine SP_seq ?_
                  obtain ⟨d, hd, hP2⟩ := bnd1 hP
                  clear hP
                  have hP := hP2
                  clear hP2
                  obtain ⟨xi, hxi, rfl, hde⟩ := nodeZ_some hd
                  refine SP_region ?_
                  refine SPL_y (y_move rfl) rfl ?_
                  refine SPL_y (y_nil rfl) rfl ?_
                  refine SPL_y (y_fa fld_195_4 rfl) rfl ?_
                  refine SPL_y (y_load Tryz.isAgg65 rfl (by repeat (first | exact Cell.amid hpre rfl | exact Cell.head rfl | apply Cell.tail))) rfl ?_
                  refine SPL_y (y_move rfl) rfl ?_
                  refine SPL_y (y_ia Tryz.underlying65 Tryz.sizeOf158 rfl rfl (by omega)) rfl ?_
                  refine SPL_y (y_fa fld_158_0 rfl) rfl ?_
                  refine SPL_y (y_load Tryz.isAgg3 rfl (by repeat (first | exact (flat_cellsE ndV_len rfl hxi hde).cell rfl | apply Cell.tail))) rfl ?_
                  refine SPL_if (y_neq rfl rfl) rfl ?_ ?_
                  · intro h48_8
                    first | rw [if_pos h48_8] at hP | rw [if_neg h48_8] at hP | skip
                    as_aux_lemma =>
                      refine SPL_nil ?_
                      refine thenP_n ?_
                      refine SP_cond_t rfl ?_
                      refine SP_seq ?_
                      refine SP_region ?_
                      refine SPL_y (y_move rfl) rfl ?_
                      have hn := fail_nodes (15) m
                      try dsimp only at hn
                      refine SPL_one rfl (SP1_call (pz_fail x _ _ (15) m) Tryz.call90 rfl rfl (by repeat (first | exact Part.nil _ | (apply Part.cons; with_reducible (first | exact P0 | exact P1 | exact P2 | exact P3 | exact P4 | exact P5 | exact P6 | exact P7 | exact P8 | exact P9 | exact P10 | exact P11 | exact P12 | exact P13 | exact P14 | exact P15 | exact P16 | exact P17 | exact P18 | exact P19 | exact P20 | exact P21 | exact P22 | exact P23)) | (apply Part.flat; simp only [List.cons_append, List.nil_append]) | (apply Part.cons; (first | exact P0 | exact P1 | exact P2 | exact P3 | exact P4 | exact P5 | exact P6 | exact P7 | exact P8 | exact P9 | exact P10 | exact P11 | exact P12 | exact P13 | exact P14 | exact P15 | exact P16 | exact P17 | exact P18 | exact P19 | exact P20 | exact P21 | exact P22 | exact P23)) | (apply Part.nilc))) ?_)
                      rintro v post H' ⟨rfl, rfl⟩ hH
                      try simp only [List.cons_append, List.nil_append] at hH
                      subst hH
                      rw [← hn] at hA ⊢
                      clear hn
                      refine SPL_nil ?_
                      refine thenP_n ?_
                      refine SP_seq ?_
                      refine SP_region ?_
                      refine SPL_y (y_assign rfl) rfl ?_
                      refine SPL_nil ?_
                      refine thenP_n ?_
                      refine SP_ret ?_
                      refine thenP_ret (bodyP_ret (Res1 rfl rfl) (Part.refl _) ?_)
                      first | exact ⟨rfl, _, _, _, hA, rfl⟩ | (injection hP with hP; injection hP with h1 h2; subst h1; subst h2; exact ⟨rfl, _, _, _, hA, rfl⟩)
                  intro h48_8
                  first | rw [if_neg h48_8] at hP | rw [if_pos (Decidable.not_not.1 h48_8)] at hP | skip
                  as_aux_lemma =>
                    refine SPL_nil ?_
                    refine thenP_n ?_
                    refine SP_cond_f rfl ?_
                    refine SP_skip ?_
                    refine thenP_n ?_
                    refine SP_seq ?_
                    refine SP_region ?_
                    refine SPL_y (y_move rfl) rfl ?_
                    refine SPL_y (y_move rfl) rfl ?_
                    refine SPL_y (y_move rfl) rfl ?_
                    refine SPL_y (y_nil rfl) rfl ?_
                    refine SPL_y (y_fa fld_195_4 rfl) rfl ?_
                    refine SPL_y (y_load Tryz.isAgg65 rfl (by repeat (first | exact Cell.amid hpre rfl | exact Cell.head rfl | apply Cell.tail))) rfl ?_
                    refine SPL_y (y_move rfl) rfl ?_
                    refine SPL_y (y_ia Tryz.underlying65 Tryz.sizeOf158 rfl rfl (by omega)) rfl ?_
                    refine SPL_y (y_fa fld_158_7 rfl) rfl ?_
                    refine SPL_y (y_load Tryz.isAgg3 rfl (by repeat (first | exact (flat_cellsE ndV_len rfl hxi hde).cell rfl | apply Cell.tail))) rfl ?_
                    refine SPL_y (y_build B158 rfl rfl (by simp only [fillL, List.foldl_cons, List.foldl_nil, List.set_cons_zero, List.set_cons_succ]; exact rfl)) rfl ?_
                    refine SPL_one rfl (SP1_call (pz_add x hP hA) Tryz.call223 rfl rfl (by repeat (first | exact Part.nil _ | (apply Part.cons; with_reducible (first | exact P0 | exact P1 | exact P2 | exact P3 | exact P4 | exact P5 | exact P6 | exact P7 | exact P8 | exact P9 | exact P10 | exact P11 | exact P12 | exact P13 | exact P14 | exact P15 | exact P16 | exact P17 | exact P18 | exact P19 | exact P20 | exact P21 | exact P22 | exact P23)) | (apply Part.flat; simp only [List.cons_append, List.nil_append]) | (apply Part.cons; (first | exact P0 | exact P1 | exact P2 | exact P3 | exact P4 | exact P5 | exact P6 | exact P7 | exact P8 | exact P9 | exact P10 | exact P11 | exact P12 | exact P13 | exact P14 | exact P15 | exact P16 | exact P17 | exact P18 | exact P19 | exact P20 | exact P21 | exact P22 | exact P23)) | (apply Part.nilc))) ?_)
                    rintro v post H' ⟨rfl, nk, nc, sp, hA, rfl⟩ hH
                    try simp only [List.cons_append, List.nil_append] at hH
                    subst hH
                    refine SPL_y (y_assign rfl) rfl ?_
                    refine SPL_nil ?_
                    refine thenP_n ?_
                    refine SP_ret ?_
                    refine bodyP_ret (Res1 rfl rfl) (Part.refl _) ?_
                    first | exact ⟨rfl, _, _, _, hA, rfl⟩ | (injection hP with hP; injection hP with h1 h2; subst h1; subst h2; exact ⟨rfl, _, _, _, hA, rfl⟩)
                · try simp only [List.cons_append, List.nil_append] at hH
                  subst hH
                  try dsimp only [cond_true, cond_false, Bool.true_or, Bool.false_or] at hP
                  refine SPL_nil ?_
                  refine thenP_n ?_
                  refine SP_cond_t rfl ?_
                  refine SP_seq ?_
                  refine SP_seq ?_
                  obtain ⟨d, hd, hP2⟩ := bnd1 hP
                  clear hP
                  have hP := hP2
                  clear hP2
                  obtain ⟨xi, hxi, rfl, hde⟩ := nodeZ_some hd
                  refine SP_region ?_
                  refine SPL_y (y_move rfl) rfl ?_
                  refine SPL_y (y_nil rfl) rfl ?_
                  refine SPL_y (y_fa fld_195_4 rfl) rfl ?_
                  refine SPL_y (y_load Tryz.isAgg65 rfl (by repeat (first | exact Cell.amid hpre rfl | exact Cell.head rfl | apply Cell.tail))) rfl ?_
                  refine SPL_y (y_move rfl) rfl ?_
                  refine SPL_y (y_ia Tryz.underlying65 Tryz.sizeOf158 rfl rfl (by omega)) rfl ?_
                  refine SPL_y (y_fa fld_158_0 rfl) rfl ?_
                  refine SPL_y (y_load Tryz.isAgg3 rfl (by repeat (first | exact (flat_cellsE ndV_len rfl hxi hde).cell rfl | apply Cell.tail))) rfl ?_
                  refine SPL_ifn (y_neq rfl rfl) rfl ?_ ?_
                  · intro h39_8
                    first | rw [if_neg h39_8] at hP | rw [if_pos (Decidable.not_not.1 h39_8)] at hP | skip
                    as_aux_lemma =>
                      refine SPL_y (y_move rfl) rfl ?_
                      refine SPL_gn rfl rfl rfl rfl ?_
                      refine SPL_gn rfl rfl rfl rfl ?_
                      refine SPL_gn rfl rfl rfl rfl ?_
                      refine SPL_gn rfl rfl rfl rfl ?_
                      refine SPL_gn rfl rfl rfl rfl ?_
                      refine SPL_gn rfl rfl rfl rfl ?_
                      refine SPL_gn rfl rfl rfl rfl ?_
                      refine SPL_gn rfl rfl rfl rfl ?_
                      refine SPL_gn rfl rfl rfl rfl ?_
                      refine SPL_y (y_pick_f rfl rfl) rfl ?_
                      refine SPL_nil ?_
                      refine thenP_n ?_
                      refine SP_cond_f rfl ?_
                      refine SP_skip ?_
                      refine thenP_n ?_
                      refine SP_seq ?_
                      rw [if_neg (fun q => h39_8 q.1)] at hP
                      refine SP_region ?_
                      refine SPL_y (y_move rfl) rfl ?_
                      refine SPL_y (y_nil rfl) rfl ?_
                      refine SPL_y (y_fa fld_195_3 rfl) rfl ?_
                      refine SPL_y (y_fa fld_193_3 rfl) rfl ?_
                      refine SPL_y (y_load Tryz.isAgg3 rfl (by repeat (first | exact Cell.amid hpre rfl | exact Cell.head rfl | apply Cell.tail))) rfl ?_
                      refine SPL_y (y_assign rfl) rfl ?_
                      refine SPL_nil ?_
                      refine thenP_n ?_
                      refine SP_seq ?_
                      refine SP_region ?_
                      refine SPL_y (y_move rfl) rfl ?_
                      obtain ⟨m, hq, hP⟩ := bnd1 hP
                      have hn := next_nodes hq
                      try dsimp only at hn
                      refine SPL_one rfl (SP1_call (pz_next x _ _ hq) Tryz.call88 rfl rfl (by repeat (first | exact Part.nil _ | (apply Part.cons; with_reducible (first | exact P0 | exact P1 | exact P2 | exact P3 | exact P4 | exact P5 | exact P6 | exact P7 | exact P8 | exact P9 | exact P10 | exact P11 | exact P12 | exact P13 | exact P14 | exact P15 | exact P16 | exact P17 | exact P18 | exact P19 | exact P20 | exact P21 | exact P22 | exact P23)) | (apply Part.flat; simp only [List.cons_append, List.nil_append]) | (apply Part.cons; (first | exact P0 | exact P1 | exact P2 | exact P3 | exact P4 | exact P5 | exact P6 | exact P7 | exact P8 | exact P9 | exact P10 | exact P11 | exact P12 | exact P13 | exact P14 | exact P15 | exact P16 | exact P17 | exact P18 | exact P19 | exact P20 | exact P21 | exact P22 | exact P23)) | (apply Part.nilc))) ?_)
                      rintro v post H' ⟨rfl, rfl⟩ hH
                      try simp only [List.cons_append, List.nil_append] at hH
                      subst hH
                      rw [← hn] at hA ⊢
                      clear hn
                      refine SPL_nil ?_
                      refine thenP_n ?_
                      refine SP_seq ?_
                      refine SP_region ?_
                      refine SPL_y (y_move rfl) rfl ?_
                      refine SPL_y (y_move rfl) rfl ?_
                      refine SPL_y (y_add rfl rfl (by omega)) rfl ?_
                      obtain ⟨v1, m, hq, hP⟩ := bnd2 hP
                      refine SPL_one rfl (SP1_call (hr.expr hq hA) Tryz.call221 rfl rfl (by repeat (first | exact Part.nil _ | (apply Part.cons; with_reducible (first | exact P0 | exact P1 | exact P2 | exact P3 | exact P4 | exact P5 | exact P6 | exact P7 | exact P8 | exact P9 | exact P10 | exact P11 | exact P12 | exact P13 | exact P14 | exact P15 | exact P16 | exact P17 | exact P18 | exact P19 | exact P20 | exact P21 | exact P22 | exact P23)) | (apply Part.flat; simp only [List.cons_append, List.nil_append]) | (apply Part.cons; (first | exact P0 | exact P1 | exact P2 | exact P3 | exact P4 | exact P5 | exact P6 | exact P7 | exact P8 | exact P9 | exact P10 | exact P11 | exact P12 | exact P13 | exact P14 | exact P15 | exact P16 | exact P17 | exact P18 | exact P19 | exact P20 | exact P21 | exact P22 | exact P23)) | (apply Part.nilc))) ?_)
                      rintro v post H' ⟨rfl, nk, nc, sp, hA, rfl⟩ hH
                      try simp only [List.cons_append, List.nil_append] at hH
                      subst hH
                      refine SPL_y (y_assign rfl) rfl ?_
                      refine SPL_nil ?_
                      refine thenP_n ?_
                      refine SP_seq ?_
                      refine SP_seq ?_
                      refine SP_region ?_
                      refine SPL_y (y_move rfl) rfl ?_
                      refine SPL_y (y_nil rfl) rfl ?_
                      refine SPL_y (y_fa fld_195_5 rfl) rfl ?_
                      refine SPL_y (y_load Tryz.isAgg30 rfl (by repeat (first | exact Cell.amid hpre rfl | exact Cell.head rfl | apply Cell.tail))) rfl ?_
                      refine SPL_if (y_neq rfl rfl) rfl ?_ ?_
                      · intro h45_4
                        first | rw [if_pos h45_4] at hP | rw [if_neg h45_4] at hP | skip
                        refine SPL_nil ?_
                        refine thenP_n ?_
                        refine SP_cond_t rfl ?_
                        refine SP_seq ?_
                        refine SP_region ?_
                        refine SPL_y (y_assign rfl) rfl ?_
                        refine SPL_nil ?_
                        refine thenP_n ?_
                        refine SP_ret ?_
                        refine thenP_ret (thenP_ret (bodyP_ret (Res1 rfl rfl) (Part.refl _) ?_))
                        first | exact ⟨rfl, _, _, _, hA, rfl⟩ | (injection hP with hP; injection hP with h1 h2; subst h1; subst h2; exact ⟨rfl, _, _, _, hA, rfl⟩)
                      intro h45_4
                      first | rw [if_neg h45_4] at hP | rw [if_pos (Decidable.not_not.1 h45_4)] at hP | skip
                      as_aux_lemma =>
                        refine SPL_nil ?_
                        refine thenP_n ?_
                        refine SP_cond_f rfl ?_
                        refine SP_skip ?_
                        refine thenP_n ?_
                        refine SP_seq ?_
                        refine SP_region ?_
                        refine SPL_y (y_move rfl) rfl ?_
                        refine SPL_y (y_move rfl) rfl ?_
                        refine SPL_y (y_move rfl) rfl ?_
                        refine SPL_y (y_move rfl) rfl ?_
                        refine SPL_y (y_build B158 rfl rfl (by simp only [fillL, List.foldl_cons, List.foldl_nil, List.set_cons_zero, List.set_cons_succ]; exact rfl)) rfl ?_
                        refine SPL_one rfl (SP1_call (pz_add x hP hA) Tryz.call223 rfl rfl (by repeat (first | exact Part.nil _ | (apply Part.cons; with_reducible (first | exact P0 | exact P1 | exact P2 | exact P3 | exact P4 | exact P5 | exact P6 | exact P7 | exact P8 | exact P9 | exact P10 | exact P11 | exact P12 | exact P13 | exact P14 | exact P15 | exact P16 | exact P17 | exact P18 | exact P19 | exact P20 | exact P21 | exact P22 | exact P23)) | (apply Part.flat; simp only [List.cons_append, List.nil_append]) | (apply Part.cons; (first | exact P0 | exact P1 | exact P2 | exact P3 | exact P4 | exact P5 | exact P6 | exact P7 | exact P8 | exact P9 | exact P10 | exact P11 | exact P12 | exact P13 | exact P14 | exact P15 | exact P16 | exact P17 | exact P18 | exact P19 | exact P20 | exact P21 | exact P22 | exact P23)) | (apply Part.nilc))) ?_)
                        rintro v post H' ⟨rfl, nk, nc, sp, hA, rfl⟩ hH
                        try simp only [List.cons_append, List.nil_append] at hH
                        subst hH
                        refine SPL_y (y_assign rfl) rfl ?_
                        refine SPL_nil ?_
                        refine thenP_n ?_
                        refine SP_ret ?_
                        refine thenP_ret (bodyP_ret (Res1 rfl rfl) (Part.refl _) ?_)
                        first | exact ⟨rfl, _, _, _, hA, rfl⟩ | (injection hP with hP; injection hP with h1 h2; subst h1; subst h2; exact ⟨rfl, _, _, _, hA, rfl⟩)
                  intro h39_8
                  first | rw [if_pos h39_8] at hP | rw [if_neg h39_8] at hP | skip
                  as_aux_lemma =>
                    refine SPL_y (y_move rfl) rfl ?_
                    refine SPL_gy rfl rfl ?_
                    refine SPL_y (y_move rfl) rfl ?_
                    refine SPL_gy rfl rfl ?_
                    refine SPL_y (y_nil rfl) rfl ?_
                    refine SPL_gy rfl rfl ?_
                    refine SPL_y (y_fa fld_195_4 rfl) rfl ?_
                    refine SPL_gy rfl rfl ?_
                    refine SPL_y (y_load Tryz.isAgg65 rfl (by repeat (first | exact Cell.amid hpre rfl | exact Cell.head rfl | apply Cell.tail))) rfl ?_
                    refine SPL_gy rfl rfl ?_
                    refine SPL_y (y_move rfl) rfl ?_
                    refine SPL_gy rfl rfl ?_
                    refine SPL_y (y_ia Tryz.underlying65 Tryz.sizeOf158 rfl rfl (by omega)) rfl ?_
                    refine SPL_gy rfl rfl ?_
                    refine SPL_y (y_fa fld_158_0 rfl) rfl ?_
                    refine SPL_gy rfl rfl ?_
                    refine SPL_y (y_load Tryz.isAgg3 rfl (by repeat (first | exact (flat_cellsE ndV_len rfl hxi hde).cell rfl | apply Cell.tail))) rfl ?_
                    refine SPL_gy rfl rfl ?_
                    refine SPL_if (y_neq rfl rfl) rfl ?_ ?_
                    · intro h39_18
                      first | rw [if_pos h39_18] at hP | rw [if_neg h39_18] at hP | skip
                      as_aux_lemma =>
                        refine SPL_y (y_pick_t rfl rfl) rfl ?_
                        refine SPL_nil ?_
                        refine thenP_n ?_
                        refine SP_cond_t rfl ?_
                        refine SP_seq ?_
                        rw [if_pos ⟨h39_8, h39_18⟩] at hP
                        refine SP_region ?_
                        refine SPL_y (y_move rfl) rfl ?_
                        have hn := fail_nodes (15) m
                        try dsimp only at hn
                        refine SPL_one rfl (SP1_call (pz_fail x _ _ (15) m) Tryz.call90 rfl rfl (by repeat (first | exact Part.nil _ | (apply Part.cons; with_reducible (first | exact P0 | exact P1 | exact P2 | exact P3 | exact P4 | exact P5 | exact P6 | exact P7 | exact P8 | exact P9 | exact P10 | exact P11 | exact P12 | exact P13 | exact P14 | exact P15 | exact P16 | exact P17 | exact P18 | exact P19 | exact P20 | exact P21 | exact P22 | exact P23)) | (apply Part.flat; simp only [List.cons_append, List.nil_append]) | (apply Part.cons; (first | exact P0 | exact P1 | exact P2 | exact P3 | exact P4 | exact P5 | exact P6 | exact P7 | exact P8 | exact P9 | exact P10 | exact P11 | exact P12 | exact P13 | exact P14 | exact P15 | exact P16 | exact P17 | exact P18 | exact P19 | exact P20 | exact P21 | exact P22 | exact P23)) | (apply Part.nilc))) ?_)
                        rintro v post H' ⟨rfl, rfl⟩ hH
                        try simp only [List.cons_append, List.nil_append] at hH
                        subst hH
                        rw [← hn] at hA ⊢
                        clear hn
                        refine SPL_nil ?_
                        refine thenP_n ?_
                        refine SP_seq ?_
                        refine SP_region ?_
                        refine SPL_y (y_assign rfl) rfl ?_
                        refine SPL_nil ?_
                        refine thenP_n ?_
                        refine SP_ret ?_
                        refine thenP_ret (thenP_ret (bodyP_ret (Res1 rfl rfl) (Part.refl _) ?_))
                        first | exact ⟨rfl, _, _, _, hA, rfl⟩ | (injection hP with hP; injection hP with h1 h2; subst h1; subst h2; exact ⟨rfl, _, _, _, hA, rfl⟩)
                    intro h39_18
                    first | rw [if_neg h39_18] at hP | rw [if_pos (Decidable.not_not.1 h39_18)] at hP | skip
                    as_aux_lemma =>
                      refine SPL_y (y_pick_t rfl rfl) rfl ?_
                      refine SPL_nil ?_
                      refine thenP_n ?_
                      refine SP_cond_f rfl ?_
                      refine SP_skip ?_
                      refine thenP_n ?_
                      refine SP_seq ?_
                      rw [if_neg (fun q => h39_18 q.2)] at hP
                      refine SP_region ?_
                      refine SPL_y (y_move rfl) rfl ?_
                      refine SPL_y (y_nil rfl) rfl ?_
                      refine SPL_y (y_fa fld_195_3 rfl) rfl ?_
                      refine SPL_y (y_fa fld_193_3 rfl) rfl ?_
                      refine SPL_y (y_load Tryz.isAgg3 rfl (by repeat (first | exact Cell.amid hpre rfl | exact Cell.head rfl | apply Cell.tail))) rfl ?_
                      refine SPL_y (y_assign rfl) rfl ?_
                      refine SPL_nil ?_
                      refine thenP_n ?_
                      refine SP_seq ?_
                      refine SP_region ?_
                      refine SPL_y (y_move rfl) rfl ?_
                      obtain ⟨m, hq, hP⟩ := bnd1 hP
                      have hn := next_nodes hq
                      try dsimp only at hn
                      refine SPL_one rfl (SP1_call (pz_next x _ _ hq) Tryz.call88 rfl rfl (by repeat (first | exact Part.nil _ | (apply Part.cons; with_reducible (first | exact P0 | exact P1 | exact P2 | exact P3 | exact P4 | exact P5 | exact P6 | exact P7 | exact P8 | exact P9 | exact P10 | exact P11 | exact P12 | exact P13 | exact P14 | exact P15 | exact P16 | exact P17 | exact P18 | exact P19 | exact P20 | exact P21 | exact P22 | exact P23)) | (apply Part.flat; simp only [List.cons_append, List.nil_append]) | (apply Part.cons; (first | exact P0 | exact P1 | exact P2 | exact P3 | exact P4 | exact P5 | exact P6 | exact P7 | exact P8 | exact P9 | exact P10 | exact P11 | exact P12 | exact P13 | exact P14 | exact P15 | exact P16 | exact P17 | exact P18 | exact P19 | exact P20 | exact P21 | exact P22 | exact P23)) | (apply Part.nilc))) ?_)
                      rintro v post H' ⟨rfl, rfl⟩ hH
                      try simp only [List.cons_append, List.nil_append] at hH
                      subst hH
                      rw [← hn] at hA ⊢
                      clear hn
                      refine SPL_nil ?_
                      refine thenP_n ?_
                      refine SP_seq ?_
                      refine SP_region ?_
                      refine SPL_y (y_move rfl) rfl ?_
                      refine SPL_y (y_move rfl) rfl ?_
                      refine SPL_y (y_add rfl rfl (by omega)) rfl ?_
                      obtain ⟨v1, m, hq, hP⟩ := bnd2 hP
                      refine SPL_one rfl (SP1_call (hr.expr hq hA) Tryz.call221 rfl rfl (by repeat (first | exact Part.nil _ | (apply Part.cons; with_reducible (first | exact P0 | exact P1 | exact P2 | exact P3 | exact P4 | exact P5 | exact P6 | exact P7 | exact P8 | exact P9 | exact P10 | exact P11 | exact P12 | exact P13 | exact P14 | exact P15 | exact P16 | exact P17 | exact P18 | exact P19 | exact P20 | exact P21 | exact P22 | exact P23)) | (apply Part.flat; simp only [List.cons_append, List.nil_append]) | (apply Part.cons; (first | exact P0 | exact P1 | exact P2 | exact P3 | exact P4 | exact P5 | exact P6 | exact P7 | exact P8 | exact P9 | exact P10 | exact P11 | exact P12 | exact P13 | exact P14 | exact P15 | exact P16 | exact P17 | exact P18 | exact P19 | exact P20 | exact P21 | exact P22 | exact P23)) | (apply Part.nilc))) ?_)
                      rintro v post H' ⟨rfl, nk, nc, sp, hA, rfl⟩ hH
                      try simp only [List.cons_append, List.nil_append] at hH
                      subst hH
                      refine SPL_y (y_assign rfl) rfl ?_
                      refine SPL_nil ?_
                      refine thenP_n ?_
                      refine SP_seq ?_
                      refine SP_seq ?_
                      refine SP_region ?_
                      refine SPL_y (y_move rfl) rfl ?_
                      refine SPL_y (y_nil rfl) rfl ?_
                      refine SPL_y (y_fa fld_195_5 rfl) rfl ?_
                      refine SPL_y (y_load Tryz.isAgg30 rfl (by repeat (first | exact Cell.amid hpre rfl | exact Cell.head rfl | apply Cell.tail))) rfl ?_
                      refine SPL_if (y_neq rfl rfl) rfl ?_ ?_
                      · intro h45_4
                        first | rw [if_pos h45_4] at hP | rw [if_neg h45_4] at hP | skip
                        refine SPL_nil ?_
                        refine thenP_n ?_
                        refine SP_cond_t rfl ?_
                        refine SP_seq ?_
                        refine SP_region ?_
                        refine SPL_y (y_assign rfl) rfl ?_
                        refine SPL_nil ?_
                        refine thenP_n ?_
                        refine SP_ret ?_
                        refine thenP_ret (thenP_ret (bodyP_ret (Res1 rfl rfl) (Part.refl _) ?_))
                        first | exact ⟨rfl, _, _, _, hA, rfl⟩ | (injection hP with hP; injection hP with h1 h2; subst h1; subst h2; exact ⟨rfl, _, _, _, hA, rfl⟩)
                      intro h45_4
                      first | rw [if_neg h45_4] at hP | rw [if_pos (Decidable.not_not.1 h45_4)] at hP | skip
                      as_aux_lemma =>
                        refine SPL_nil ?_
                        refine thenP_n ?_
                        refine SP_cond_f rfl ?_
                        refine SP_skip ?_
                        refine thenP_n ?_
                        refine SP_seq ?_
                        refine SP_region ?_
                        refine SPL_y (y_move rfl) rfl ?_
                        refine SPL_y (y_move rfl) rfl ?_
                        refine SPL_y (y_move rfl) rfl ?_
                        refine SPL_y (y_move rfl) rfl ?_
                        refine SPL_y (y_build B158 rfl rfl (by simp only [fillL, List.foldl_cons, List.foldl_nil, List.set_cons_zero, List.set_cons_succ]; exact rfl)) rfl ?_
                        refine SPL_one rfl (SP1_call (pz_add x hP hA) Tryz.call223 rfl rfl (by repeat (first | exact Part.nil _ | (apply Part.cons; with_reducible (first | exact P0 | exact P1 | exact P2 | exact P3 | exact P4 | exact P5 | exact P6 | exact P7 | exact P8 | exact P9 | exact P10 | exact P11 | exact P12 | exact P13 | exact P14 | exact P15 | exact P16 | exact P17 | exact P18 | exact P19 | exact P20 | exact P21 | exact P22 | exact P23)) | (apply Part.flat; simp only [List.cons_append, List.nil_append]) | (apply Part.cons; (first | exact P0 | exact P1 | exact P2 | exact P3 | exact P4 | exact P5 | exact P6 | exact P7 | exact P8 | exact P9 | exact P10 | exact P11 | exact P12 | exact P13 | exact P14 | exact P15 | exact P16 | exact P17 | exact P18 | exact P19 | exact P20 | exact P21 | exact P22 | exact P23)) | (apply Part.nilc))) ?_)
                        rintro v post H' ⟨rfl, nk, nc, sp, hA, rfl⟩ hH
                        try simp only [List.cons_append, List.nil_append] at hH
                        subst hH
                        refine SPL_y (y_assign rfl) rfl ?_
                        refine SPL_nil ?_
                        refine thenP_n ?_
                        refine SP_ret ?_
                        refine thenP_ret (bodyP_ret (Res1 rfl rfl) (Part.refl _) ?_)
                        first | exact ⟨rfl, _, _, _, hA, rfl⟩ | (injection hP with hP; injection hP with h1 h2; subst h1; subst h2; exact ⟨rfl, _, _, _, hA, rfl⟩)
            · try simp only [List.cons_append, List.nil_append] at hH
              subst hH
              try dsimp only [cond_true, cond_false, Bool.true_or, Bool.false_or] at hP
              refine SPL_nil ?_
              refine thenP_n ?_
              refine SP_cond_t rfl ?_
              refine SP_seq ?_
              refine SP_region ?_
              refine SPL_y (y_move rfl) rfl ?_
              obtain ⟨m, hq, hP⟩ := bnd1 hP
              have hn := next_nodes hq
              try dsimp only at hn
              refine SPL_one rfl (SP1_call (pz_next x _ _ hq) Tryz.call88 rfl rfl (by repeat (first | exact Part.nil _ | (apply Part.cons; with_reducible (first | exact P0 | exact P1 | exact P2 | exact P3 | exact P4 | exact P5 | exact P6 | exact P7 | exact P8 | exact P9 | exact P10 | exact P11 | exact P12 | exact P13 | exact P14 | exact P15 | exact P16 | exact P17 | exact P18 | exact P19 | exact P20 | exact P21 | exact P22 | exact P23)) | (apply Part.flat; simp only [List.cons_append, List.nil_append]) | (apply Part.cons; (first | exact P0 | exact P1 | exact P2 | exact P3 | exact P4 | exact P5 | exact P6 | exact P7 | exact P8 | exact P9 | exact P10 | exact P11 | exact P12 | exact P13 | exact P14 | exact P15 | exact P16 | exact P17 | exact P18 | exact P19 | exact P20 | exact P21 | exact P22 | exact P23)) | (apply Part.nilc))) ?_)
              rintro v post H' ⟨rfl, rfl⟩ hH
              try simp only [List.cons_append, List.nil_append] at hH
              subst hH
              rw [← hn] at hA ⊢
              clear hn
              refine SPL_nil ?_
              refine thenP_n ?_
              refine SP_seq ?_
              refine SP_region ?_
              refine SPL_y (y_assign rfl) rfl ?_
              refine SPL_nil ?_
              refine thenP_n ?_
              refine SP_seq ?_
              refine SP_region ?_
              refine SPL_y (y_assign rfl) rfl ?_
              refine SPL_nil ?_
              refine thenP_n ?_
              refine SP_seq ?_
              refine SP_seq ?_
              unfold retZ at hP
              refine SP_region ?_
              refine SPL_y (y_move rfl) rfl ?_
              refine SPL_one rfl (SP1_call (pz_end x _ _ m) Tryz.call154 rfl rfl (by repeat (first | exact Part.nil _ | (apply Part.cons; with_reducible (first | exact P0 | exact P1 | exact P2 | exact P3 | exact P4 | exact P5 | exact P6 | exact P7 | exact P8 | exact P9 | exact P10 | exact P11 | exact P12 | exact P13 | exact P14 | exact P15 | exact P16 | exact P17 | exact P18 | exact P19 | exact P20 | exact P21 | exact P22 | exact P23)) | (apply Part.flat; simp only [List.cons_append, List.nil_append]) | (apply Part.cons; (first | exact P0 | exact P1 | exact P2 | exact P3 | exact P4 | exact P5 | exact P6 | exact P7 | exact P8 | exact P9 | exact P10 | exact P11 | exact P12 | exact P13 | exact P14 | exact P15 | exact P16 | exact P17 | exact P18 | exact P19 | exact P20 | exact P21 | exact P22 | exact P23)) | (apply Part.nilc))) ?_)
              rintro v post H' ⟨rfl, rfl⟩ hH
              generalize hw : endZ m = w at hP ⊢
              rcases w with _ | _
              · try simp only [List.cons_append, List.nil_append] at hH
                subst hH
                try dsimp only [cond_true, cond_false, Bool.true_or, Bool.false_or] at hP
                refine SPL_y (y_not_f rfl) rfl ?_
                refine SPL_nil ?_
                refine thenP_n ?_
                refine SP_cond_t rfl ?_
                refine SP_seq ?_
                refine SP_region ?_
                refine SPL_y (y_move rfl) rfl ?_
                refine SPL_y (y_move rfl) rfl ?_
                refine SPL_y (y_add rfl rfl (by omega)) rfl ?_
                obtain ⟨v1, m, hq, hP⟩ := bnd2 hP
                refine SPL_one rfl (SP1_call (hr.expr hq hA) Tryz.call221 rfl rfl (by repeat (first | exact Part.nil _ | (apply Part.cons; with_reducible (first | exact P0 | exact P1 | exact P2 | exact P3 | exact P4 | exact P5 | exact P6 | exact P7 | exact P8 | exact P9 | exact P10 | exact P11 | exact P12 | exact P13 | exact P14 | exact P15 | exact P16 | exact P17 | exact P18 | exact P19 | exact P20 | exact P21 | exact P22 | exact P23)) | (apply Part.flat; simp only [List.cons_append, List.nil_append]) | (apply Part.cons; (first | exact P0 | exact P1 | exact P2 | exact P3 | exact P4 | exact P5 | exact P6 | exact P7 | exact P8 | exact P9 | exact P10 | exact P11 | exact P12 | exact P13 | exact P14 | exact P15 | exact P16 | exact P17 | exact P18 | exact P19 | exact P20 | exact P21 | exact P22 | exact P23)) | (apply Part.nilc))) ?_)
                rintro v post H' ⟨rfl, nk, nc, sp, hA, rfl⟩ hH
                try simp only [List.cons_append, List.nil_append] at hH
                subst hH
                refine SPL_y (y_assign rfl) rfl ?_
                refine SPL_nil ?_
                refine thenP_n ?_
                refine SP_seq ?_
                refine SP_region ?_
                refine SPL_y (y_move rfl) rfl ?_
                refine SPL_one rfl (SP1_call (pz_is x _ _ tComma m) Tryz.call217 rfl rfl (by repeat (first | exact Part.nil _ | (apply Part.cons; with_reducible (first | exact P0 | exact P1 | exact P2 | exact P3 | exact P4 | exact P5 | exact P6 | exact P7 | exact P8 | exact P9 | exact P10 | exact P11 | exact P12 | exact P13 | exact P14 | exact P15 | exact P16 | exact P17 | exact P18 | exact P19 | exact P20 | exact P21 | exact P22 | exact P23)) | (apply Part.flat; simp only [List.cons_append, List.nil_append]) | (apply Part.cons; (first | exact P0 | exact P1 | exact P2 | exact P3 | exact P4 | exact P5 | exact P6 | exact P7 | exact P8 | exact P9 | exact P10 | exact P11 | exact P12 | exact P13 | exact P14 | exact P15 | exact P16 | exact P17 | exact P18 | exact P19 | exact P20 | exact P21 | exact P22 | exact P23)) | (apply Part.nilc))) ?_)
                rintro v post H' ⟨rfl, rfl⟩ hH
                generalize hw : isZ tComma m = w at hP ⊢
                rcases w with _ | _
                · try simp only [List.cons_append, List.nil_append] at hH
                  subst hH
                  try dsimp only [cond_true, cond_false, Bool.true_or, Bool.false_or] at hP
                  refine SPL_nil ?_
                  refine thenP_n ?_
                  refine SP_cond_f rfl ?_
                  refine SP_skip ?_
                  refine thenP_n ?_
                  refine SP_seq ?_
                  refine SP_seq ?_
                  refine SP_region ?_
                  refine SPL_y (y_move rfl) rfl ?_
                  refine SPL_y (y_nil rfl) rfl ?_
                  refine SPL_y (y_fa fld_195_5 rfl) rfl ?_
                  refine SPL_y (y_load Tryz.isAgg30 rfl (by repeat (first | exact Cell.amid hpre rfl | exact Cell.head rfl | apply Cell.tail))) rfl ?_
                  refine SPL_if (y_neq rfl rfl) rfl ?_ ?_
                  · intro h32_4
                    first | rw [if_pos h32_4] at hP | rw [if_neg h32_4] at hP | skip
                    refine SPL_nil ?_
                    refine thenP_n ?_
                    refine SP_cond_t rfl ?_
                    refine SP_seq ?_
                    refine SP_region ?_
                    refine SPL_y (y_assign rfl) rfl ?_
                    refine SPL_nil ?_
                    refine thenP_n ?_
                    refine SP_ret ?_
                    refine thenP_ret (thenP_ret (bodyP_ret (Res1 rfl rfl) (Part.refl _) ?_))
                    first | exact ⟨rfl, _, _, _, hA, rfl⟩ | (injection hP with hP; injection hP with h1 h2; subst h1; subst h2; exact ⟨rfl, _, _, _, hA, rfl⟩)
                  intro h32_4
                  first | rw [if_neg h32_4] at hP | rw [if_pos (Decidable.not_not.1 h32_4)] at hP | skip
                  as_aux_lemma =>
                    refine SPL_nil ?_
                    refine thenP_n ?_
                    refine SP_cond_f rfl ?_
                    refine SP_skip ?_
                    refine thenP_n ?_
                    refine SP_seq ?_
                    refine SP_region ?_
                    refine SPL_y (y_move rfl) rfl ?_
                    refine SPL_y (y_move rfl) rfl ?_
                    refine SPL_y (y_move rfl) rfl ?_
                    refine SPL_y (y_move rfl) rfl ?_
                    refine SPL_y (y_build B158 rfl rfl (by simp only [fillL, List.foldl_cons, List.foldl_nil, List.set_cons_zero, List.set_cons_succ]; exact rfl)) rfl ?_
                    refine SPL_one rfl (SP1_call (pz_add x hP hA) Tryz.call223 rfl rfl (by repeat (first | exact Part.nil _ | (apply Part.cons; with_reducible (first | exact P0 | exact P1 | exact P2 | exact P3 | exact P4 | exact P5 | exact P6 | exact P7 | exact P8 | exact P9 | exact P10 | exact P11 | exact P12 | exact P13 | exact P14 | exact P15 | exact P16 | exact P17 | exact P18 | exact P19 | exact P20 | exact P21 | exact P22 | exact P23)) | (apply Part.flat; simp only [List.cons_append, List.nil_append]) | (apply Part.cons; (first | exact P0 | exact P1 | exact P2 | exact P3 | exact P4 | exact P5 | exact P6 | exact P7 | exact P8 | exact P9 | exact P10 | exact P11 | exact P12 | exact P13 | exact P14 | exact P15 | exact P16 | exact P17 | exact P18 | exact P19 | exact P20 | exact P21 | exact P22 | exact P23)) | (apply Part.nilc))) ?_)
                    rintro v post H' ⟨rfl, nk, nc, sp, hA, rfl⟩ hH
                    try simp only [List.cons_append, List.nil_append] at hH
                    subst hH
                    refine SPL_y (y_assign rfl) rfl ?_
                    refine SPL_nil ?_
                    refine thenP_n ?_
                    refine SP_ret ?_
                    refine thenP_ret (bodyP_ret (Res1 rfl rfl) (Part.refl _) ?_)
                    first | exact ⟨rfl, _, _, _, hA, rfl⟩ | (injection hP with hP; injection hP with h1 h2; subst h1; subst h2; exact ⟨rfl, _, _, _, hA, rfl⟩)
                · try simp only [List.cons_append, List.nil_append] at hH
                  subst hH
                  try dsimp only [cond_true, cond_false, Bool.true_or, Bool.false_or] at hP
                  refine SPL_nil ?_
                  refine thenP_n ?_
                  refine SP_cond_t rfl ?_
                  refine SP_seq ?_
                  refine SP_region ?_
                  refine SPL_y (y_move rfl) rfl ?_
                  obtain ⟨m, hq, hP⟩ := bnd1 hP
                  have hn := next_nodes hq
                  try dsimp only at hn
                  refine SPL_one rfl (SP1_call (pz_next x _ _ hq) Tryz.call88 rfl rfl (by repeat (first | exact Part.nil _ | (apply Part.cons; with_reducible (first | exact P0 | exact P1 | exact P2 | exact P3 | exact P4 | exact P5 | exact P6 | exact P7 | exact P8 | exact P9 | exact P10 | exact P11 | exact P12 | exact P13 | exact P14 | exact P15 | exact P16 | exact P17 | exact P18 | exact P19 | exact P20 | exact P21 | exact P22 | exact P23)) | (apply Part.flat; simp only [List.cons_append, List.nil_append]) | (apply Part.cons; (first | exact P0 | exact P1 | exact P2 | exact P3 | exact P4 | exact P5 | exact P6 | exact P7 | exact P8 | exact P9 | exact P10 | exact P11 | exact P12 | exact P13 | exact P14 | exact P15 | exact P16 | exact P17 | exact P18 | exact P19 | exact P20 | exact P21 | exact P22 | exact P23)) | (apply Part.nilc))) ?_)
                  rintro v post H' ⟨rfl, rfl⟩ hH
                  try simp only [List.cons_append, List.nil_append] at hH
                  subst hH
                  rw [← hn] at hA ⊢
                  clear hn
                  refine SPL_nil ?_
                  refine thenP_n ?_
                  refine SP_region ?_
                  refine SPL_y (y_move rfl) rfl ?_
                  refine SPL_y (y_move rfl) rfl ?_
                  refine SPL_y (y_add rfl rfl (by omega)) rfl ?_
                  obtain ⟨v1, m, hq, hP⟩ := bnd2 hP
                  refine SPL_one rfl (SP1_call (hr.expr hq hA) Tryz.call221 rfl rfl (by repeat (first | exact Part.nil _ | (apply Part.cons; with_reducible (first | exact P0 | exact P1 | exact P2 | exact P3 | exact P4 | exact P5 | exact P6 | exact P7 | exact P8 | exact P9 | exact P10 | exact P11 | exact P12 | exact P13 | exact P14 | exact P15 | exact P16 | exact P17 | exact P18 | exact P19 | exact P20 | exact P21 | exact P22 | exact P23)) | (apply Part.flat; simp only [List.cons_append, List.nil_append]) | (apply Part.cons; (first | exact P0 | exact P1 | exact P2 | exact P3 | exact P4 | exact P5 | exact P6 | exact P7 | exact P8 | exact P9 | exact P10 | exact P11 | exact P12 | exact P13 | exact P14 | exact P15 | exact P16 | exact P17 | exact P18 | exact P19 | exact P20 | exact P21 | exact P22 | exact P23)) | (apply Part.nilc))) ?_)
                  rintro v post H' ⟨rfl, nk, nc, sp, hA, rfl⟩ hH
                  try simp only [List.cons_append, List.nil_append] at hH
                  subst hH
                  refine SPL_y (y_assign rfl) rfl ?_
                  refine SPL_nil ?_
                  refine thenP_n ?_
                  refine SP_seq ?_
                  refine SP_seq ?_
                  refine SP_region ?_
                  refine SPL_y (y_move rfl) rfl ?_
                  refine SPL_y (y_nil rfl) rfl ?_
                  refine SPL_y (y_fa fld_195_5 rfl) rfl ?_
                  refine SPL_y (y_load Tryz.isAgg30 rfl (by repeat (first | exact Cell.amid hpre rfl | exact Cell.head rfl | apply Cell.tail))) rfl ?_
                  refine SPL_if (y_neq rfl rfl) rfl ?_ ?_
                  · intro h32_4
                    first | rw [if_pos h32_4] at hP | rw [if_neg h32_4] at hP | skip
                    refine SPL_nil ?_
                    refine thenP_n ?_
                    refine SP_cond_t rfl ?_
                    refine SP_seq ?_
                    refine SP_region ?_
                    refine SPL_y (y_assign rfl) rfl ?_
                    refine SPL_nil ?_
                    refine thenP_n ?_
                    refine SP_ret ?_
                    refine thenP_ret (thenP_ret (bodyP_ret (Res1 rfl rfl) (Part.refl _) ?_))
                    first | exact ⟨rfl, _, _, _, hA, rfl⟩ | (injection hP with hP; injection hP with h1 h2; subst h1; subst h2; exact ⟨rfl, _, _, _, hA, rfl⟩)
                  intro h32_4
                  first | rw [if_neg h32_4] at hP | rw [if_pos (Decidable.not_not.1 h32_4)] at hP | skip
                  as_aux_lemma =>
                    refine SPL_nil ?_
                    refine thenP_n ?_
                    refine SP_cond_f rfl ?_
                    refine SP_skip ?_
                    refine thenP_n ?_
                    refine SP_seq ?_
                    refine SP_region ?_
                    refine SPL_y (y_move rfl) rfl ?_
                    refine SPL_y (y_move rfl) rfl ?_
                    refine SPL_y (y_move rfl) rfl ?_
                    refine SPL_y (y_move rfl) rfl ?_
                    refine SPL_y (y_build B158 rfl rfl (by simp only [fillL, List.foldl_cons, List.foldl_nil, List.set_cons_zero, List.set_cons_succ]; exact rfl)) rfl ?_
                    refine SPL_one rfl (SP1_call (pz_add x hP hA) Tryz.call223 rfl rfl (by repeat (first | exact Part.nil _ | (apply Part.cons; with_reducible (first | exact P0 | exact P1 | exact P2 | exact P3 | exact P4 | exact P5 | exact P6 | exact P7 | exact P8 | exact P9 | exact P10 | exact P11 | exact P12 | exact P13 | exact P14 | exact P15 | exact P16 | exact P17 | exact P18 | exact P19 | exact P20 | exact P21 | exact P22 | exact P23)) | (apply Part.flat; simp only [List.cons_append, List.nil_append]) | (apply Part.cons; (first | exact P0 | exact P1 | exact P2 | exact P3 | exact P4 | exact P5 | exact P6 | exact P7 | exact P8 | exact P9 | exact P10 | exact P11 | exact P12 | exact P13 | exact P14 | exact P15 | exact P16 | exact P17 | exact P18 | exact P19 | exact P20 | exact P21 | exact P22 | exact P23)) | (apply Part.nilc))) ?_)
                    rintro v post H' ⟨rfl, nk, nc, sp, hA, rfl⟩ hH
                    try simp only [List.cons_append, List.nil_append] at hH
                    subst hH
                    refine SPL_y (y_assign rfl) rfl ?_
                    refine SPL_nil ?_
                    refine thenP_n ?_
                    refine SP_ret ?_
                    refine thenP_ret (bodyP_ret (Res1 rfl rfl) (Part.refl _) ?_)
                    first | exact ⟨rfl, _, _, _, hA, rfl⟩ | (injection hP with hP; injection hP with h1 h2; subst h1; subst h2; exact ⟨rfl, _, _, _, hA, rfl⟩)
              · try simp only [List.cons_append, List.nil_append] at hH
                subst hH
                try dsimp only [cond_true, cond_false, Bool.true_or, Bool.false_or] at hP
                refine SPL_y (y_not_t rfl) rfl ?_
                refine SPL_nil ?_
                refine thenP_n ?_
                refine SP_cond_f rfl ?_
                refine SP_skip ?_
                refine thenP_n ?_
                refine SP_seq ?_
                refine SP_seq ?_
                refine SP_region ?_
                refine SPL_y (y_move rfl) rfl ?_
                refine SPL_y (y_nil rfl) rfl ?_
                refine SPL_y (y_fa fld_195_5 rfl) rfl ?_
                refine SPL_y (y_load Tryz.isAgg30 rfl (by repeat (first | exact Cell.amid hpre rfl | exact Cell.head rfl | apply Cell.tail))) rfl ?_
                refine SPL_if (y_neq rfl rfl) rfl ?_ ?_
                · intro h32_4
                  first | rw [if_pos h32_4] at hP | rw [if_neg h32_4] at hP | skip
                  refine SPL_nil ?_
                  refine thenP_n ?_
                  refine SP_cond_t rfl ?_
                  refine SP_seq ?_
                  refine SP_region ?_
                  refine SPL_y (y_assign rfl) rfl ?_
                  refine SPL_nil ?_
                  refine thenP_n ?_
                  refine SP_ret ?_
                  refine thenP_ret (thenP_ret (bodyP_ret (Res1 rfl rfl) (Part.refl _) ?_))
                  first | exact ⟨rfl, _, _, _, hA, rfl⟩ | (injection hP with hP; injection hP with h1 h2; subst h1; subst h2; exact ⟨rfl, _, _, _, hA, rfl⟩)
                intro h32_4
                first | rw [if_neg h32_4] at hP | rw [if_pos (Decidable.not_not.1 h32_4)] at hP | skip
                as_aux_lemma =>
                  refine SPL_nil ?_
                  refine thenP_n ?_
                  refine SP_cond_f rfl ?_
                  refine SP_skip ?_
                  refine thenP_n ?_
                  refine SP_seq ?_
                  refine SP_region ?_
                  refine SPL_y (y_move rfl) rfl ?_
                  refine SPL_y (y_move rfl) rfl ?_
                  refine SPL_y (y_move rfl) rfl ?_
                  refine SPL_y (y_move rfl) rfl ?_
                  refine SPL_y (y_build B158 rfl rfl (by simp only [fillL, List.foldl_cons, List.foldl_nil, List.set_cons_zero, List.set_cons_succ]; exact rfl)) rfl ?_
                  refine SPL_one rfl (SP1_call (pz_add x hP hA) Tryz.call223 rfl rfl (by repeat (first | exact Part.nil _ | (apply Part.cons; with_reducible (first | exact P0 | exact P1 | exact P2 | exact P3 | exact P4 | exact P5 | exact P6 | exact P7 | exact P8 | exact P9 | exact P10 | exact P11 | exact P12 | exact P13 | exact P14 | exact P15 | exact P16 | exact P17 | exact P18 | exact P19 | exact P20 | exact P21 | exact P22 | exact P23)) | (apply Part.flat; simp only [List.cons_append, List.nil_append]) | (apply Part.cons; (first | exact P0 | exact P1 | exact P2 | exact P3 | exact P4 | exact P5 | exact P6 | exact P7 | exact P8 | exact P9 | exact P10 | exact P11 | exact P12 | exact P13 | exact P14 | exact P15 | exact P16 | exact P17 | exact P18 | exact P19 | exact P20 | exact P21 | exact P22 | exact P23)) | (apply Part.nilc))) ?_)
                  rintro v post H' ⟨rfl, nk, nc, sp, hA, rfl⟩ hH
                  try simp only [List.cons_append, List.nil_append] at hH
                  subst hH
                  refine SPL_y (y_assign rfl) rfl ?_
                  refine SPL_nil ?_
                  refine thenP_n ?_
                  refine SP_ret ?_
                  refine thenP_ret (bodyP_ret (Res1 rfl rfl) (Part.refl _) ?_)
                  first | exact ⟨rfl, _, _, _, hA, rfl⟩ | (injection hP with hP; injection hP with h1 h2; subst h1; subst h2; exact ⟨rfl, _, _, _, hA, rfl⟩)
          · try simp only [List.cons_append, List.nil_append] at hH
            subst hH
            try dsimp only [cond_true, cond_false, Bool.true_or, Bool.false_or] at hP
            refine SPL_nil ?_
            refine thenP_n ?_
            refine SP_cond_t rfl ?_
            refine SP_seq ?_
            refine SP_seq ?_
            refine SP_region ?_
            refine SPL_y (y_move rfl) rfl ?_
            refine SPL_y (y_nil rfl) rfl ?_
            refine SPL_y (y_fa fld_195_8 rfl) rfl ?_
            refine SPL_y (y_load Tryz.isAgg3 rfl (by repeat (first | exact Cell.amid hpre rfl | exact Cell.head rfl | apply Cell.tail))) rfl ?_
            refine SPL_if (y_eql rfl rfl) rfl ?_ ?_
            · intro h18_4
              first | rw [if_pos h18_4] at hP | rw [if_neg h18_4] at hP | skip
              as_aux_lemma =>
                refine SPL_nil ?_
                refine thenP_n ?_
                refine SP_cond_t rfl ?_
                refine SP_seq ?_
                refine SP_region ?_
                refine SPL_y (y_move rfl) rfl ?_
                have hn := fail_nodes (15) m
                try dsimp only at hn
                refine SPL_one rfl (SP1_call (pz_fail x _ _ (15) m) Tryz.call90 rfl rfl (by repeat (first | exact Part.nil _ | (apply Part.cons; with_reducible (first | exact P0 | exact P1 | exact P2 | exact P3 | exact P4 | exact P5 | exact P6 | exact P7 | exact P8 | exact P9 | exact P10 | exact P11 | exact P12 | exact P13 | exact P14 | exact P15 | exact P16 | exact P17 | exact P18 | exact P19 | exact P20 | exact P21 | exact P22 | exact P23)) | (apply Part.flat; simp only [List.cons_append, List.nil_append]) | (apply Part.cons; (first | exact P0 | exact P1 | exact P2 | exact P3 | exact P4 | exact P5 | exact P6 | exact P7 | exact P8 | exact P9 | exact P10 | exact P11 | exact P12 | exact P13 | exact P14 | exact P15 | exact P16 | exact P17 | exact P18 | exact P19 | exact P20 | exact P21 | exact P22 | exact P23)) | (apply Part.nilc))) ?_)
                rintro v post H' ⟨rfl, rfl⟩ hH
                try simp only [List.cons_append, List.nil_append] at hH
                subst hH
                rw [← hn] at hA ⊢
                clear hn
                refine SPL_nil ?_
                refine thenP_n ?_
                refine SP_seq ?_
                refine SP_region ?_
                refine SPL_y (y_assign rfl) rfl ?_
                refine SPL_nil ?_
                refine thenP_n ?_
                refine SP_ret ?_
                refine thenP_ret (thenP_ret (bodyP_ret (Res1 rfl rfl) (Part.refl _) ?_))
                first | exact ⟨rfl, _, _, _, hA, rfl⟩ | (injection hP with hP; injection hP with h1 h2; subst h1; subst h2; exact ⟨rfl, _, _, _, hA, rfl⟩)
            intro h18_4
            first | rw [if_neg h18_4] at hP | rw [if_pos (Decidable.not_not.1 h18_4)] at hP | skip
            as_aux_lemma =>
              refine SPL_nil ?_
              refine thenP_n ?_
              refine SP_cond_f rfl ?_
              refine SP_skip ?_
              refine thenP_n ?_
              refine SP_seq ?_
              refine SP_region ?_
              refine SPL_y (y_move rfl) rfl ?_
              obtain ⟨m, hq, hP⟩ := bnd1 hP
              have hn := next_nodes hq
              try dsimp only at hn
              refine SPL_one rfl (SP1_call (pz_next x _ _ hq) Tryz.call88 rfl rfl (by repeat (first | exact Part.nil _ | (apply Part.cons; with_reducible (first | exact P0 | exact P1 | exact P2 | exact P3 | exact P4 | exact P5 | exact P6 | exact P7 | exact P8 | exact P9 | exact P10 | exact P11 | exact P12 | exact P13 | exact P14 | exact P15 | exact P16 | exact P17 | exact P18 | exact P19 | exact P20 | exact P21 | exact P22 | exact P23)) | (apply Part.flat; simp only [List.cons_append, List.nil_append]) | (apply Part.cons; (first | exact P0 | exact P1 | exact P2 | exact P3 | exact P4 | exact P5 | exact P6 | exact P7 | exact P8 | exact P9 | exact P10 | exact P11 | exact P12 | exact P13 | exact P14 | exact P15 | exact P16 | exact P17 | exact P18 | exact P19 | exact P20 | exact P21 | exact P22 | exact P23)) | (apply Part.nilc))) ?_)
              rintro v post H' ⟨rfl, rfl⟩ hH
              try simp only [List.cons_append, List.nil_append] at hH
              subst hH
              rw [← hn] at hA ⊢
              clear hn
              refine SPL_nil ?_
              refine thenP_n ?_
              refine SP_seq ?_
              refine SP_region ?_
              refine SPL_y (y_move rfl) rfl ?_
              refine SPL_y (y_move rfl) rfl ?_
              refine SPL_y (y_build B158 rfl rfl (by simp only [fillL, List.foldl_cons, List.foldl_nil, List.set_cons_zero, List.set_cons_succ]; exact rfl)) rfl ?_
              refine SPL_one rfl (SP1_call (pz_add x hP hA) Tryz.call223 rfl rfl (by repeat (first | exact Part.nil _ | (apply Part.cons; with_reducible (first | exact P0 | exact P1 | exact P2 | exact P3 | exact P4 | exact P5 | exact P6 | exact P7 | exact P8 | exact P9 | exact P10 | exact P11 | exact P12 | exact P13 | exact P14 | exact P15 | exact P16 | exact P17 | exact P18 | exact P19 | exact P20 | exact P21 | exact P22 | exact P23)) | (apply Part.flat; simp only [List.cons_append, List.nil_append]) | (apply Part.cons; (first | exact P0 | exact P1 | exact P2 | exact P3 | exact P4 | exact P5 | exact P6 | exact P7 | exact P8 | exact P9 | exact P10 | exact P11 | exact P12 | exact P13 | exact P14 | exact P15 | exact P16 | exact P17 | exact P18 | exact P19 | exact P20 | exact P21 | exact P22 | exact P23)) | (apply Part.nilc))) ?_)
              rintro v post H' ⟨rfl, nk, nc, sp, hA, rfl⟩ hH
              try simp only [List.cons_append, List.nil_append] at hH
              subst hH
              refine SPL_y (y_assign rfl) rfl ?_
              refine SPL_nil ?_
              refine thenP_n ?_
              refine SP_ret ?_
              refine thenP_ret (bodyP_ret (Res1 rfl rfl) (Part.refl _) ?_)
              first | exact ⟨rfl, _, _, _, hA, rfl⟩ | (injection hP with hP; injection hP with h1 h2; subst h1; subst h2; exact ⟨rfl, _, _, _, hA, rfl⟩)
        · try simp only [List.cons_append, List.nil_append] at hH
          subst hH
          try dsimp only [cond_true, cond_false, Bool.true_or, Bool.false_or] at hP
          refine SPL_nil ?_
          refine thenP_n ?_
          refine SP_cond_t rfl ?_
          refine SP_seq ?_
          refine SP_region ?_
          refine SPL_y (y_move rfl) rfl ?_
          obtain ⟨m, hq, hP⟩ := bnd1 hP
          have hn := next_nodes hq
          try dsimp only at hn
          refine SPL_one rfl (SP1_call (pz_next x _ _ hq) Tryz.call88 rfl rfl (by repeat (first | exact Part.nil _ | (apply Part.cons; with_reducible (first | exact P0 | exact P1 | exact P2 | exact P3 | exact P4 | exact P5 | exact P6 | exact P7 | exact P8 | exact P9 | exact P10 | exact P11 | exact P12 | exact P13 | exact P14 | exact P15 | exact P16 | exact P17 | exact P18 | exact P19 | exact P20 | exact P21 | exact P22 | exact P23)) | (apply Part.flat; simp only [List.cons_append, List.nil_append]) | (apply Part.cons; (first | exact P0 | exact P1 | exact P2 | exact P3 | exact P4 | exact P5 | exact P6 | exact P7 | exact P8 | exact P9 | exact P10 | exact P11 | exact P12 | exact P13 | exact P14 | exact P15 | exact P16 | exact P17 | exact P18 | exact P19 | exact P20 | exact P21 | exact P22 | exact P23)) | (apply Part.nilc))) ?_)
          rintro v post H' ⟨rfl, rfl⟩ hH
          try simp only [List.cons_append, List.nil_append] at hH
          subst hH
          rw [← hn] at hA ⊢
          clear hn
          refine SPL_nil ?_
          refine thenP_n ?_
          refine SP_seq ?_
          refine SP_region ?_
          refine SPL_y (y_move rfl) rfl ?_
          refine SPL_y (y_move rfl) rfl ?_
          refine SPL_y (y_add rfl rfl (by omega)) rfl ?_
          obtain ⟨v1, m, hq, hP⟩ := bnd2 hP
          refine SPL_one rfl (SP1_call (hr.expr hq hA) Tryz.call221 rfl rfl (by repeat (first | exact Part.nil _ | (apply Part.cons; with_reducible (first | exact P0 | exact P1 | exact P2 | exact P3 | exact P4 | exact P5 | exact P6 | exact P7 | exact P8 | exact P9 | exact P10 | exact P11 | exact P12 | exact P13 | exact P14 | exact P15 | exact P16 | exact P17 | exact P18 | exact P19 | exact P20 | exact P21 | exact P22 | exact P23)) | (apply Part.flat; simp only [List.cons_append, List.nil_append]) | (apply Part.cons; (first | exact P0 | exact P1 | exact P2 | exact P3 | exact P4 | exact P5 | exact P6 | exact P7 | exact P8 | exact P9 | exact P10 | exact P11 | exact P12 | exact P13 | exact P14 | exact P15 | exact P16 | exact P17 | exact P18 | exact P19 | exact P20 | exact P21 | exact P22 | exact P23)) | (apply Part.nilc))) ?_)
          rintro v post H' ⟨rfl, nk, nc, sp, hA, rfl⟩ hH
          try simp only [List.cons_append, List.nil_append] at hH
          subst hH
          refine SPL_y (y_assign rfl) rfl ?_
          refine SPL_nil ?_
          refine thenP_n ?_
          refine SP_seq ?_
          refine SP_seq ?_
          refine SP_region ?_
          refine SPL_y (y_move rfl) rfl ?_
          refine SPL_y (y_nil rfl) rfl ?_
          refine SPL_y (y_fa fld_195_5 rfl) rfl ?_
          refine SPL_y (y_load Tryz.isAgg30 rfl (by repeat (first | exact Cell.amid hpre rfl | exact Cell.head rfl | apply Cell.tail))) rfl ?_
          refine SPL_if (y_neq rfl rfl) rfl ?_ ?_
          · intro h11_4
            first | rw [if_pos h11_4] at hP | rw [if_neg h11_4] at hP | skip
            refine SPL_nil ?_
            refine thenP_n ?_
            refine SP_cond_t rfl ?_
            refine SP_seq ?_
            refine SP_region ?_
            refine SPL_y (y_assign rfl) rfl ?_
            refine SPL_nil ?_
            refine thenP_n ?_
            refine SP_ret ?_
            refine thenP_ret (thenP_ret (bodyP_ret (Res1 rfl rfl) (Part.refl _) ?_))
            first | exact ⟨rfl, _, _, _, hA, rfl⟩ | (injection hP with hP; injection hP with h1 h2; subst h1; subst h2; exact ⟨rfl, _, _, _, hA, rfl⟩)
          intro h11_4
          first | rw [if_neg h11_4] at hP | rw [if_pos (Decidable.not_not.1 h11_4)] at hP | skip
          as_aux_lemma =>
            refine SPL_nil ?_
            refine thenP_n ?_
            refine SP_cond_f rfl ?_
            refine SP_skip ?_
            refine thenP_n ?_
            refine SP_seq ?_
            refine SP_region ?_
            refine SPL_y (y_move rfl) rfl ?_
            refine SPL_y (y_move rfl) rfl ?_
            obtain ⟨v1, m, hq, hP⟩ := bnd2 hP
            refine SPL_one rfl (SP1_call (hr.body hq hA) Tryz.call222 rfl rfl (by repeat (first | exact Part.nil _ | (apply Part.cons; with_reducible (first | exact P0 | exact P1 | exact P2 | exact P3 | exact P4 | exact P5 | exact P6 | exact P7 | exact P8 | exact P9 | exact P10 | exact P11 | exact P12 | exact P13 | exact P14 | exact P15 | exact P16 | exact P17 | exact P18 | exact P19 | exact P20 | exact P21 | exact P22 | exact P23)) | (apply Part.flat; simp only [List.cons_append, List.nil_append]) | (apply Part.cons; (first | exact P0 | exact P1 | exact P2 | exact P3 | exact P4 | exact P5 | exact P6 | exact P7 | exact P8 | exact P9 | exact P10 | exact P11 | exact P12 | exact P13 | exact P14 | exact P15 | exact P16 | exact P17 | exact P18 | exact P19 | exact P20 | exact P21 | exact P22 | exact P23)) | (apply Part.nilc))) ?_)
            rintro v post H' ⟨rfl, nk, nc, sp, hA, rfl⟩ hH
            try simp only [List.cons_append, List.nil_append] at hH
            subst hH
            refine SPL_y (y_assign rfl) rfl ?_
            refine SPL_nil ?_
            refine thenP_n ?_
            refine SP_seq ?_
            refine SP_seq ?_
            refine SP_region ?_
            refine SPL_y (y_move rfl) rfl ?_
            refine SPL_y (y_nil rfl) rfl ?_
            refine SPL_y (y_fa fld_195_5 rfl) rfl ?_
            refine SPL_y (y_load Tryz.isAgg30 rfl (by repeat (first | exact Cell.amid hpre rfl | exact Cell.head rfl | apply Cell.tail))) rfl ?_
            refine SPL_if (y_neq rfl rfl) rfl ?_ ?_
            · intro h14_4
              first | rw [if_pos h14_4] at hP | rw [if_neg h14_4] at hP | skip
              refine SPL_nil ?_
              refine thenP_n ?_
              refine SP_cond_t rfl ?_
              refine SP_seq ?_
              refine SP_region ?_
              refine SPL_y (y_assign rfl) rfl ?_
              refine SPL_nil ?_
              refine thenP_n ?_
              refine SP_ret ?_
              refine thenP_ret (thenP_ret (bodyP_ret (Res1 rfl rfl) (Part.refl _) ?_))
              first | exact ⟨rfl, _, _, _, hA, rfl⟩ | (injection hP with hP; injection hP with h1 h2; subst h1; subst h2; exact ⟨rfl, _, _, _, hA, rfl⟩)
            intro h14_4
            first | rw [if_neg h14_4] at hP | rw [if_pos (Decidable.not_not.1 h14_4)] at hP | skip
            as_aux_lemma =>
              refine SPL_nil ?_
              refine thenP_n ?_
              refine SP_cond_f rfl ?_
              refine SP_skip ?_
              refine thenP_n ?_
              refine SP_seq ?_
              refine SP_region ?_
              refine SPL_y (y_move rfl) rfl ?_
              refine SPL_y (y_move rfl) rfl ?_
              refine SPL_y (y_move rfl) rfl ?_
              refine SPL_y (y_move rfl) rfl ?_
              refine SPL_y (y_build B158 rfl rfl (by simp only [fillL, List.foldl_cons, List.foldl_nil, List.set_cons_zero, List.set_cons_succ]; exact rfl)) rfl ?_
              refine SPL_one rfl (SP1_call (pz_add x hP hA) Tryz.call223 rfl rfl (by repeat (first | exact Part.nil _ | (apply Part.cons; with_reducible (first | exact P0 | exact P1 | exact P2 | exact P3 | exact P4 | exact P5 | exact P6 | exact P7 | exact P8 | exact P9 | exact P10 | exact P11 | exact P12 | exact P13 | exact P14 | exact P15 | exact P16 | exact P17 | exact P18 | exact P19 | exact P20 | exact P21 | exact P22 | exact P23)) | (apply Part.flat; simp only [List.cons_append, List.nil_append]) | (apply Part.cons; (first | exact P0 | exact P1 | exact P2 | exact P3 | exact P4 | exact P5 | exact P6 | exact P7 | exact P8 | exact P9 | exact P10 | exact P11 | exact P12 | exact P13 | exact P14 | exact P15 | exact P16 | exact P17 | exact P18 | exact P19 | exact P20 | exact P21 | exact P22 | exact P23)) | (apply Part.nilc))) ?_)
              rintro v post H' ⟨rfl, nk, nc, sp, hA, rfl⟩ hH
              try simp only [List.cons_append, List.nil_append] at hH
              subst hH
              refine SPL_y (y_assign rfl) rfl ?_
              refine SPL_nil ?_
              refine thenP_n ?_
              refine SP_ret ?_
              refine thenP_ret (bodyP_ret (Res1 rfl rfl) (Part.refl _) ?_)
              first | exact ⟨rfl, _, _, _, hA, rfl⟩ | (injection hP with hP; injection hP with h1 h2; subst h1; subst h2; exact ⟨rfl, _, _, _, hA, rfl⟩)
      · try simp only [List.cons_append, List.nil_append] at hH
        subst hH
        try dsimp only [cond_true, cond_false, Bool.true_or, Bool.false_or] at hP
        refine SPL_nil ?_
        refine thenP_n ?_
        refine SP_cond_t rfl ?_
        refine SP_seq ?_
        refine SP_region ?_
        refine SPL_y (y_move rfl) rfl ?_
        refine SPL_y (y_move rfl) rfl ?_
        refine SPL_one rfl (SP1_call (hr.forS hP hA) Tryz.call220 rfl rfl (by repeat (first | exact Part.nil _ | (apply Part.cons; with_reducible (first | exact P0 | exact P1 | exact P2 | exact P3 | exact P4 | exact P5 | exact P6 | exact P7 | exact P8 | exact P9 | exact P10 | exact P11 | exact P12 | exact P13 | exact P14 | exact P15 | exact P16 | exact P17 | exact P18 | exact P19 | exact P20 | exact P21 | exact P22 | exact P23)) | (apply Part.flat; simp only [List.cons_append, List.nil_append]) | (apply Part.cons; (first | exact P0 | exact P1 | exact P2 | exact P3 | exact P4 | exact P5 | exact P6 | exact P7 | exact P8 | exact P9 | exact P10 | exact P11 | exact P12 | exact P13 | exact P14 | exact P15 | exact P16 | exact P17 | exact P18 | exact P19 | exact P20 | exact P21 | exact P22 | exact P23)) | (apply Part.nilc))) ?_)
        rintro v post H' ⟨rfl, nk, nc, sp, hA, rfl⟩ hH
        try simp only [List.cons_append, List.nil_append] at hH
        subst hH
        refine SPL_y (y_assign rfl) rfl ?_
        refine SPL_nil ?_
        refine thenP_n ?_
        refine SP_ret ?_
        refine thenP_ret (bodyP_ret (Res1 rfl rfl) (Part.refl _) ?_)
        first | exact ⟨rfl, _, _, _, hA, rfl⟩ | (injection hP with hP; injection hP with h1 h2; subst h1; subst h2; exact ⟨rfl, _, _, _, hA, rfl⟩)
    · try simp only [List.cons_append, List.nil_append] at hH
      subst hH
      try dsimp only [cond_true, cond_false, Bool.true_or, Bool.false_or] at hP
      refine SPL_nil ?_
      refine thenP_n ?_
      refine SP_cond_t rfl ?_
      refine SP_seq ?_
      refine SP_region ?_
      refine SPL_y (y_move rfl) rfl ?_
      refine SPL_y (y_move rfl) rfl ?_
      refine SPL_one rfl (SP1_call (hr.ifS hP hA) Tryz.call219 rfl rfl (by repeat (first | exact Part.nil _ | (apply Part.cons; with_reducible (first | exact P0 | exact P1 | exact P2 | exact P3 | exact P4 | exact P5 | exact P6 | exact P7 | exact P8 | exact P9 | exact P10 | exact P11 | exact P12 | exact P13 | exact P14 | exact P15 | exact P16 | exact P17 | exact P18 | exact P19 | exact P20 | exact P21 | exact P22 | exact P23)) | (apply Part.flat; simp only [List.cons_append, List.nil_append]) | (apply Part.cons; (first | exact P0 | exact P1 | exact P2 | exact P3 | exact P4 | exact P5 | exact P6 | exact P7 | exact P8 | exact P9 | exact P10 | exact P11 | exact P12 | exact P13 | exact P14 | exact P15 | exact P16 | exact P17 | exact P18 | exact P19 | exact P20 | exact P21 | exact P22 | exact P23)) | (apply Part.nilc))) ?_)
      rintro v post H' ⟨rfl, nk, nc, sp, hA, rfl⟩ hH
      try simp only [List.cons_append, List.nil_append] at hH
      subst hH
      refine SPL_y (y_assign rfl) rfl ?_
      refine SPL_nil ?_
      refine thenP_n ?_
      refine SP_ret ?_
      refine thenP_ret (bodyP_ret (Res1 rfl rfl) (Part.refl _) ?_)
      first | exact ⟨rfl, _, _, _, hA, rfl⟩ | (injection hP with hP; injection hP with h1 h2; subst h1; subst h2; exact ⟨rfl, _, _, _, hA, rfl⟩)
  · try simp only [List.cons_append, List.nil_append] at hH
    subst hH
    try dsimp only [cond_true, cond_false, Bool.true_or, Bool.false_or] at hP
    refine SPL_nil ?_
    refine thenP_n ?_
    refine SP_cond_t rfl ?_
    refine SP_seq ?_
    refine SP_region ?_
    refine SPL_y (y_move rfl) rfl ?_
    refine SPL_y (y_move rfl) rfl ?_
    refine SPL_one rfl (SP1_call (hr.locS hP hA) Tryz.call218 rfl rfl (by repeat (first | exact Part.nil _ | (apply Part.cons; with_reducible (first | exact P0 | exact P1 | exact P2 | exact P3 | exact P4 | exact P5 | exact P6 | exact P7 | exact P8 | exact P9 | exact P10 | exact P11 | exact P12 | exact P13 | exact P14 | exact P15 | exact P16 | exact P17 | exact P18 | exact P19 | exact P20 | exact P21 | exact P22 | exact P23)) | (apply Part.flat; simp only [List.cons_append, List.nil_append]) | (apply Part.cons; (first | exact P0 | exact P1 | exact P2 | exact P3 | exact P4 | exact P5 | exact P6 | exact P7 | exact P8 | exact P9 | exact P10 | exact P11 | exact P12 | exact P13 | exact P14 | exact P15 | exact P16 | exact P17 | exact P18 | exact P19 | exact P20 | exact P21 | exact P22 | exact P23)) | (apply Part.nilc))) ?_)
    rintro v post H' ⟨rfl, nk, nc, sp, hA, rfl⟩ hH
    try simp only [List.cons_append, List.nil_append] at hH
    subst hH
    refine SPL_y (y_assign rfl) rfl ?_
    refine SPL_nil ?_
    refine thenP_n ?_
    refine SP_ret ?_
    refine thenP_ret (bodyP_ret (Res1 rfl rfl) (Part.refl _) ?_)
    first | exact ⟨rfl, _, _, _, hA, rfl⟩ | (injection hP with hP; injection hP with h1 h2; subst h1; subst h2; exact ⟨rfl, _, _, _, hA, rfl⟩)

theorem pz_ifS (x : ZX) (rc : RZ) (hr : PK x rc) {n : Nat} {lv : Int} {nk nc : Nat} {sp : List Value} {m m' : PZ} {v0 : Int} (hP : ifZ x.src rc lv m = some (v0, m')) (hA : NzOk nc m.nodes sp) : Spec Tryz.prog 219 [pt x.b, I lv] [pzb x nk nc m, pzn nk m.nodes sp] (Ret (ZRet x m' (I v0))) := by
  unfold ifZ at hP
  obtain ⟨hlv, hP⟩ := grd hP
  refine Spec_enter Tryz.func219 rfl Tryz.ntmps219 rfl ?_
  show SP _ _ _ _ _ [(0, _), (1, _)] _
  refine SP_seq ?_
  refine SP_region ?_
  refine SPL_y (y_assign rfl) rfl ?_
  refine SPL_nil ?_
  refine thenP_n ?_
  refine SP_seq ?_
  refine SP_region ?_
  refine SPL_y (y_move rfl) rfl ?_
  refine SPL_y (y_nil rfl) rfl ?_
  refine SPL_y (y_fa fld_195_3 rfl) rfl ?_
  refine SPL_y (y_fa fld_193_3 rfl) rfl ?_
  refine SPL_y (y_load Tryz.isAgg3 rfl (by repeat (first | exact Cell.amid hpre rfl | exact Cell.head rfl | apply Cell.tail))) rfl ?_
  refine SPL_y (y_assign rfl) rfl ?_
  refine SPL_nil ?_
  refine thenP_n ?_
  refine SP_seq ?_
  refine SP_region ?_
  refine SPL_y (y_move rfl) rfl ?_
  obtain ⟨m, hq, hP⟩ := bnd1 hP
  have hn := next_nodes hq
  try dsimp only at hn
  refine SPL_one rfl (SP1_call (pz_next x _ _ hq) Tryz.call88 rfl rfl (by repeat (first | exact Part.nil _ | (apply Part.cons; with_reducible (first | exact P0 | exact P1 | exact P2 | exact P3 | exact P4 | exact P5 | exact P6 | exact P7 | exact P8 | exact P9 | exact P10 | exact P11 | exact P12 | exact P13 | exact P14 | exact P15 | exact P16 | exact P17 | exact P18 | exact P19 | exact P20 | exact P21 | exact P22 | exact P23)) | (apply Part.flat; simp only [List.cons_append, List.nil_append]) | (apply Part.cons; (first | exact P0 | exact P1 | exact P2 | exact P3 | exact P4 | exact P5 | exact P6 | exact P7 | exact P8 | exact P9 | exact P10 | exact P11 | exact P12 | exact P13 | exact P14 | exact P15 | exact P16 | exact P17 | exact P18 | exact P19 | exact P20 | exact P21 | exact P22 | exact P23)) | (apply Part.nilc))) ?_)
  rintro v post H' ⟨rfl, rfl⟩ hH
  try simp only [List.cons_append, List.nil_append] at hH
  subst hH
  rw [← hn] at hA ⊢
  clear hn
  refine SPL_nil ?_
  refine thenP_n ?_
  refine SP_seq ?_
  refine SP_region ?_
  refine SPL_y (y_move rfl) rfl ?_
  refine SPL_y (y_move rfl) rfl ?_
  refine SPL_y (y_add rfl rfl (by omega)) rfl ?_
  obtain ⟨v1, m, hq, hP⟩ := bnd2 hP
  refine SPL_one rfl (SP1_call (hr.expr hq hA) Tryz.call221 rfl rfl (by repeat (first | exact Part.nil _ | (apply Part.cons; with_reducible (first | exact P0 | exact P1 | exact P2 | exact P3 | exact P4 | exact P5 | exact P6 | exact P7 | exact P8 | exact P9 | exact P10 | exact P11 | exact P12 | exact P13 | exact P14 | exact P15 | exact P16 | exact P17 | exact P18 | exact P19 | exact P20 | exact P21 | exact P22 | exact P23)) | (apply Part.flat; simp only [List.cons_append, List.nil_append]) | (apply Part.cons; (first | exact P0 | exact P1 | exact P2 | exact P3 | exact P4 | exact P5 | exact P6 | exact P7 | exact P8 | exact P9 | exact P10 | exact P11 | exact P12 | exact P13 | exact P14 | exact P15 | exact P16 | exact P17 | exact P18 | exact P19 | exact P20 | exact P21 | exact P22 | exact P23)) | (apply Part.nilc))) ?_)
  rintro v post H' ⟨rfl, nk, nc, sp, hA, rfl⟩ hH
  try simp only [List.cons_append, List.nil_append] at hH
  subst hH
  refine SPL_y (y_assign rfl) rfl ?_
  refine SPL_nil ?_
  refine thenP_n ?_
  refine SP_seq ?_
  refine SP_region ?_
  refine SPL_y (y_move rfl) rfl ?_
  obtain ⟨m, hq, hP⟩ := bnd1 hP
  have hn := want_nodes hq
  try dsimp only at hn
  refine SPL_one rfl (SP1_call (pz_want x _ _ hq) Tryz.call270 rfl rfl (by repeat (first | exact Part.nil _ | (apply Part.cons; with_reducible (first | exact P0 | exact P1 | exact P2 | exact P3 | exact P4 | exact P5 | exact P6 | exact P7 | exact P8 | exact P9 | exact P10 | exact P11 | exact P12 | exact P13 | exact P14 | exact P15 | exact P16 | exact P17 | exact P18 | exact P19 | exact P20 | exact P21 | exact P22 | exact P23)) | (apply Part.flat; simp only [List.cons_append, List.nil_append]) | (apply Part.cons; (first | exact P0 | exact P1 | exact P2 | exact P3 | exact P4 | exact P5 | exact P6 | exact P7 | exact P8 | exact P9 | exact P10 | exact P11 | exact P12 | exact P13 | exact P14 | exact P15 | exact P16 | exact P17 | exact P18 | exact P19 | exact P20 | exact P21 | exact P22 | exact P23)) | (apply Part.nilc))) ?_)
  rintro v post H' ⟨rfl, rfl⟩ hH
  try simp only [List.cons_append, List.nil_append] at hH
  subst hH
  rw [← hn] at hA ⊢
  clear hn
  refine SPL_nil ?_
  refine thenP_n ?_
  refine SP_seq ?_
  refine SP_seq ?_
  refine SP_region ?_
  refine SPL_y (y_move rfl) rfl ?_
  refine SPL_y (y_nil rfl) rfl ?_
  refine SPL_y (y_fa fld_195_5 rfl) rfl ?_
  refine SPL_y (y_load Tryz.isAgg30 rfl (by repeat (first | exact Cell.amid hpre rfl | exact Cell.head rfl | apply Cell.tail))) rfl ?_
  refine SPL_if (y_neq rfl rfl) rfl ?_ ?_
  · intro h5_4
    first | rw [if_pos h5_4] at hP | rw [if_neg h5_4] at hP | skip
    refine SPL_nil ?_
    refine thenP_n ?_
    refine SP_cond_t rfl ?_
    refine SP_seq ?_
    refine SP_region ?_
    refine SPL_y (y_assign rfl) rfl ?_
    refine SPL_nil ?_
    refine thenP_n ?_
    refine SP_ret ?_
    refine thenP_ret (bodyP_ret (Res1 rfl rfl) (Part.refl _) ?_)
    first | exact ⟨rfl, _, _, _, hA, rfl⟩ | (injection hP with hP; injection hP with h1 h2; subst h1; subst h2; exact ⟨rfl, _, _, _, hA, rfl⟩)
  intro h5_4
  first | rw [if_neg h5_4] at hP | rw [if_pos (Decidable.not_not.1 h5_4)] at hP | skip
  refine SPL_nil ?_
  refine thenP_n ?_
  refine SP_cond_f rfl ?_
  refine SP_skip ?_
  refine thenP_n ?_
  refine SP_seq ?_
  refine SP_region ?_
  refine SPL_y (y_move rfl) rfl ?_
  refine SPL_y (y_move rfl) rfl ?_
  refine SPL_y (y_add rfl rfl (by omega)) rfl ?_
  obtain ⟨v1, m, hq, hP⟩ := bnd2 hP
  refine SPL_one rfl (SP1_call (hr.block hq hA) Tryz.call89 rfl rfl (by repeat (first | exact Part.nil _ | (apply Part.cons; with_reducible (first | exact P0 | exact P1 | exact P2 | exact P3 | exact P4 | exact P5 | exact P6 | exact P7 | exact P8 | exact P9 | exact P10 | exact P11 | exact P12 | exact P13 | exact P14 | exact P15 | exact P16 | exact P17 | exact P18 | exact P19 | exact P20 | exact P21 | exact P22 | exact P23)) | (apply Part.flat; simp only [List.cons_append, List.nil_append]) | (apply Part.cons; (first | exact P0 | exact P1 | exact P2 | exact P3 | exact P4 | exact P5 | exact P6 | exact P7 | exact P8 | exact P9 | exact P10 | exact P11 | exact P12 | exact P13 | exact P14 | exact P15 | exact P16 | exact P17 | exact P18 | exact P19 | exact P20 | exact P21 | exact P22 | exact P23)) | (apply Part.nilc))) ?_)
  rintro v post H' ⟨rfl, nk, nc, sp, hA, rfl⟩ hH
  try simp only [List.cons_append, List.nil_append] at hH
  subst hH
  refine SPL_y (y_assign rfl) rfl ?_
  refine SPL_nil ?_
  refine thenP_n ?_
  refine SP_seq ?_
  refine SP_seq ?_
  refine SP_region ?_
  refine SPL_y (y_move rfl) rfl ?_
  refine SPL_y (y_nil rfl) rfl ?_
  refine SPL_y (y_fa fld_195_5 rfl) rfl ?_
  refine SPL_y (y_load Tryz.isAgg30 rfl (by repeat (first | exact Cell.amid hpre rfl | exact Cell.head rfl | apply Cell.tail))) rfl ?_
  refine SPL_if (y_neq rfl rfl) rfl ?_ ?_
  · intro h8_4
    first | rw [if_pos h8_4] at hP | rw [if_neg h8_4] at hP | skip
    refine SPL_nil ?_
    refine thenP_n ?_
    refine SP_cond_t rfl ?_
    refine SP_seq ?_
    refine SP_region ?_
    refine SPL_y (y_assign rfl) rfl ?_
    refine SPL_nil ?_
    refine thenP_n ?_
    refine SP_ret ?_
    refine thenP_ret (bodyP_ret (Res1 rfl rfl) (Part.refl _) ?_)
    first | exact ⟨rfl, _, _, _, hA, rfl⟩ | (injection hP with hP; injection hP with h1 h2; subst h1; subst h2; exact ⟨rfl, _, _, _, hA, rfl⟩)
  intro h8_4
  first | rw [if_neg h8_4] at hP | rw [if_pos (Decidable.not_not.1 h8_4)] at hP | skip
  refine SPL_nil ?_
  refine thenP_n ?_
  refine SP_cond_f rfl ?_
  refine SP_skip ?_
  refine thenP_n ?_
  refine SP_seq ?_
  refine SP_region ?_
  refine SPL_y (y_assign rfl) rfl ?_
  refine SPL_nil ?_
  refine thenP_n ?_
  refine SP_seq ?_
  refine SP_seq ?_
  refine SP_region ?_
  refine SPL_y (y_move rfl) rfl ?_
  refine SPL_one rfl (SP1_call (pz_is x _ _ tElseif m) Tryz.call217 rfl rfl (by repeat (first | exact Part.nil _ | (apply Part.cons; with_reducible (first | exact P0 | exact P1 | exact P2 | exact P3 | exact P4 | exact P5 | exact P6 | exact P7 | exact P8 | exact P9 | exact P10 | exact P11 | exact P12 | exact P13 | exact P14 | exact P15 | exact P16 | exact P17 | exact P18 | exact P19 | exact P20 | exact P21 | exact P22 | exact P23)) | (apply Part.flat; simp only [List.cons_append, List.nil_append]) | (apply Part.cons; (first | exact P0 | exact P1 | exact P2 | exact P3 | exact P4 | exact P5 | exact P6 | exact P7 | exact P8 | exact P9 | exact P10 | exact P11 | exact P12 | exact P13 | exact P14 | exact P15 | exact P16 | exact P17 | exact P18 | exact P19 | exact P20 | exact P21 | exact P22 | exact P23)) | (apply Part.nilc))) ?_)
  rintro v post H' ⟨rfl, rfl⟩ hH
  generalize hw : isZ tElseif m = w at hP ⊢
  rcases w with _ | _
  · try simp only [List.cons_append, List.nil_append] at hH
    subst hH
    try dsimp only [cond_true, cond_false, Bool.true_or, Bool.false_or] at hP
    refine SPL_nil ?_
    refine thenP_n ?_
    refine SP_cond_f rfl ?_
    refine SP_skip ?_
    refine thenP_n ?_
    refine SP_seq ?_
    refine SP_seq ?_
    refine SP_region ?_
    refine SPL_y (y_move rfl) rfl ?_
    refine SPL_one rfl (SP1_call (pz_is x _ _ tElse m) Tryz.call217 rfl rfl (by repeat (first | exact Part.nil _ | (apply Part.cons; with_reducible (first | exact P0 | exact P1 | exact P2 | exact P3 | exact P4 | exact P5 | exact P6 | exact P7 | exact P8 | exact P9 | exact P10 | exact P11 | exact P12 | exact P13 | exact P14 | exact P15 | exact P16 | exact P17 | exact P18 | exact P19 | exact P20 | exact P21 | exact P22 | exact P23)) | (apply Part.flat; simp only [List.cons_append, List.nil_append]) | (apply Part.cons; (first | exact P0 | exact P1 | exact P2 | exact P3 | exact P4 | exact P5 | exact P6 | exact P7 | exact P8 | exact P9 | exact P10 | exact P11 | exact P12 | exact P13 | exact P14 | exact P15 | exact P16 | exact P17 | exact P18 | exact P19 | exact P20 | exact P21 | exact P22 | exact P23)) | (apply Part.nilc))) ?_)
    rintro v post H' ⟨rfl, rfl⟩ hH
    generalize hw : isZ tElse m = w at hP ⊢
    rcases w with _ | _
    · try simp only [List.cons_append, List.nil_append] at hH
      subst hH
      try dsimp only [cond_true, cond_false, Bool.true_or, Bool.false_or] at hP
      refine SPL_nil ?_
      refine thenP_n ?_
      refine SP_cond_f rfl ?_
      refine SP_skip ?_
      refine thenP_n ?_
      refine SP_seq ?_
      refine SP_region ?_
      refine SPL_y (y_move rfl) rfl ?_
      obtain ⟨m, hq, hP⟩ := bnd1 hP
      have hn := want_nodes hq
      try dsimp only at hn
      refine SPL_one rfl (SP1_call (pz_want x _ _ hq) Tryz.call270 rfl rfl (by repeat (first | exact Part.nil _ | (apply Part.cons; with_reducible (first | exact P0 | exact P1 | exact P2 | exact P3 | exact P4 | exact P5 | exact P6 | exact P7 | exact P8 | exact P9 | exact P10 | exact P11 | exact P12 | exact P13 | exact P14 | exact P15 | exact P16 | exact P17 | exact P18 | exact P19 | exact P20 | exact P21 | exact P22 | exact P23)) | (apply Part.flat; simp only [List.cons_append, List.nil_append]) | (apply Part.cons; (first | exact P0 | exact P1 | exact P2 | exact P3 | exact P4 | exact P5 | exact P6 | exact P7 | exact P8 | exact P9 | exact P10 | exact P11 | exact P12 | exact P13 | exact P14 | exact P15 | exact P16 | exact P17 | exact P18 | exact P19 | exact P20 | exact P21 | exact P22 | exact P23)) | (apply Part.nilc))) ?_)
      rintro v post H' ⟨rfl, rfl⟩ hH
      try simp only [List.cons_append, List.nil_append] at hH
      subst hH
      rw [← hn] at hA ⊢
      clear hn
      refine SPL_nil ?_
      refine thenP_n ?_
      refine SP_seq ?_
      refine SP_seq ?_
      refine SP_region ?_
      refine SPL_y (y_move rfl) rfl ?_
      refine SPL_y (y_nil rfl) rfl ?_
      refine SPL_y (y_fa fld_195_5 rfl) rfl ?_
      refine SPL_y (y_load Tryz.isAgg30 rfl (by repeat (first | exact Cell.amid hpre rfl | exact Cell.head rfl | apply Cell.tail))) rfl ?_
      refine SPL_if (y_neq rfl rfl) rfl ?_ ?_
      · intro h20_4
        first | rw [if_pos h20_4] at hP | rw [if_neg h20_4] at hP | skip
        refine SPL_nil ?_
        refine thenP_n ?_
        refine SP_cond_t rfl ?_
        refine SP_seq ?_
        refine SP_region ?_
        refine SPL_y (y_assign rfl) rfl ?_
        refine SPL_nil ?_
        refine thenP_n ?_
        refine SP_ret ?_
        refine thenP_ret (bodyP_ret (Res1 rfl rfl) (Part.refl _) ?_)
        first | exact ⟨rfl, _, _, _, hA, rfl⟩ | (injection hP with hP; injection hP with h1 h2; subst h1; subst h2; exact ⟨rfl, _, _, _, hA, rfl⟩)
      intro h20_4
      first | rw [if_neg h20_4] at hP | rw [if_pos (Decidable.not_not.1 h20_4)] at hP | skip
      refine SPL_nil ?_
      refine thenP_n ?_
      refine SP_cond_f rfl ?_
      refine SP_skip ?_
      refine thenP_n ?_
      refine SP_seq ?_
      refine SP_region ?_
      refine SPL_y (y_move rfl) rfl ?_
      refine SPL_y (y_move rfl) rfl ?_
      refine SPL_y (y_move rfl) rfl ?_
      refine SPL_y (y_move rfl) rfl ?_
      refine SPL_y (y_move rfl) rfl ?_
      refine SPL_y (y_build B158 rfl rfl (by simp only [fillL, List.foldl_cons, List.foldl_nil, List.set_cons_zero, List.set_cons_succ]; exact rfl)) rfl ?_
      refine SPL_one rfl (SP1_call (pz_add x hP hA) Tryz.call223 rfl rfl (by repeat (first | exact Part.nil _ | (apply Part.cons; with_reducible (first | exact P0 | exact P1 | exact P2 | exact P3 | exact P4 | exact P5 | exact P6 | exact P7 | exact P8 | exact P9 | exact P10 | exact P11 | exact P12 | exact P13 | exact P14 | exact P15 | exact P16 | exact P17 | exact P18 | exact P19 | exact P20 | exact P21 | exact P22 | exact P23)) | (apply Part.flat; simp only [List.cons_append, List.nil_append]) | (apply Part.cons; (first | exact P0 | exact P1 | exact P2 | exact P3 | exact P4 | exact P5 | exact P6 | exact P7 | exact P8 | exact P9 | exact P10 | exact P11 | exact P12 | exact P13 | exact P14 | exact P15 | exact P16 | exact P17 | exact P18 | exact P19 | exact P20 | exact P21 | exact P22 | exact P23)) | (apply Part.nilc))) ?_)
      rintro v post H' ⟨rfl, nk, nc, sp, hA, rfl⟩ hH
      try simp only [List.cons_append, List.nil_append] at hH
      subst hH
      refine SPL_y (y_assign rfl) rfl ?_
      refine SPL_nil ?_
      refine thenP_n ?_
      refine SP_ret ?_
      refine bodyP_ret (Res1 rfl rfl) (Part.refl _) ?_
      first | exact ⟨rfl, _, _, _, hA, rfl⟩ | (injection hP with hP; injection hP with h1 h2; subst h1; subst h2; exact ⟨rfl, _, _, _, hA, rfl⟩)
    · try simp only [List.cons_append, List.nil_append] at hH
      subst hH
      try dsimp only [cond_true, cond_false, Bool.true_or, Bool.false_or] at hP
      refine SPL_nil ?_
      refine thenP_n ?_
      refine SP_cond_t rfl ?_
      refine SP_seq ?_
      refine SP_region ?_
      refine SPL_y (y_move rfl) rfl ?_
      obtain ⟨m, hq, hP⟩ := bnd1 hP
      have hn := next_nodes hq
      try dsimp only at hn
      refine SPL_one rfl (SP1_call (pz_next x _ _ hq) Tryz.call88 rfl rfl (by repeat (first | exact Part.nil _ | (apply Part.cons; with_reducible (first | exact P0 | exact P1 | exact P2 | exact P3 | exact P4 | exact P5 | exact P6 | exact P7 | exact P8 | exact P9 | exact P10 | exact P11 | exact P12 | exact P13 | exact P14 | exact P15 | exact P16 | exact P17 | exact P18 | exact P19 | exact P20 | exact P21 | exact P22 | exact P23)) | (apply Part.flat; simp only [List.cons_append, List.nil_append]) | (apply Part.cons; (first | exact P0 | exact P1 | exact P2 | exact P3 | exact P4 | exact P5 | exact P6 | exact P7 | exact P8 | exact P9 | exact P10 | exact P11 | exact P12 | exact P13 | exact P14 | exact P15 | exact P16 | exact P17 | exact P18 | exact P19 | exact P20 | exact P21 | exact P22 | exact P23)) | (apply Part.nilc))) ?_)
      rintro v post H' ⟨rfl, rfl⟩ hH
      try simp only [List.cons_append, List.nil_append] at hH
      subst hH
      rw [← hn] at hA ⊢
      clear hn
      refine SPL_nil ?_
      refine thenP_n ?_
      refine SP_region ?_
      refine SPL_y (y_move rfl) rfl ?_
      refine SPL_y (y_move rfl) rfl ?_
      refine SPL_y (y_add rfl rfl (by omega)) rfl ?_
      obtain ⟨v1, m, hq, hP⟩ := bnd2 hP
      refine SPL_one rfl (SP1_call (hr.block hq hA) Tryz.call89 rfl rfl (by repeat (first | exact Part.nil _ | (apply Part.cons; with_reducible (first | exact P0 | exact P1 | exact P2 | exact P3 | exact P4 | exact P5 | exact P6 | exact P7 | exact P8 | exact P9 | exact P10 | exact P11 | exact P12 | exact P13 | exact P14 | exact P15 | exact P16 | exact P17 | exact P18 | exact P19 | exact P20 | exact P21 | exact P22 | exact P23)) | (apply Part.flat; simp only [List.cons_append, List.nil_append]) | (apply Part.cons; (first | exact P0 | exact P1 | exact P2 | exact P3 | exact P4 | exact P5 | exact P6 | exact P7 | exact P8 | exact P9 | exact P10 | exact P11 | exact P12 | exact P13 | exact P14 | exact P15 | exact P16 | exact P17 | exact P18 | exact P19 | exact P20 | exact P21 | exact P22 | exact P23)) | (apply Part.nilc))) ?_)
      rintro v post H' ⟨rfl, nk, nc, sp, hA, rfl⟩ hH
      try simp only [List.cons_append, List.nil_append] at hH
      subst hH
      refine SPL_y (y_assign rfl) rfl ?_
      refine SPL_nil ?_
      refine thenP_n ?_
      refine SP_seq ?_
      refine SP_region ?_
      refine SPL_y (y_move rfl) rfl ?_
      obtain ⟨m, hq, hP⟩ := bnd1 hP
      have hn := want_nodes hq
      try dsimp only at hn
      refine SPL_one rfl (SP1_call (pz_want x _ _ hq) Tryz.call270 rfl rfl (by repeat (first | exact Part.nil _ | (apply Part.cons; with_reducible (first | exact P0 | exact P1 | exact P2 | exact P3 | exact P4 | exact P5 | exact P6 | exact P7 | exact P8 | exact P9 | exact P10 | exact P11 | exact P12 | exact P13 | exact P14 | exact P15 | exact P16 | exact P17 | exact P18 | exact P19 | exact P20 | exact P21 | exact P22 | exact P23)) | (apply Part.flat; simp only [List.cons_append, List.nil_append]) | (apply Part.cons; (first | exact P0 | exact P1 | exact P2 | exact P3 | exact P4 | exact P5 | exact P6 | exact P7 | exact P8 | exact P9 | exact P10 | exact P11 | exact P12 | exact P13 | exact P14 | exact P15 | exact P16 | exact P17 | exact P18 | exact P19 | exact P20 | exact P21 | exact P22 | exact P23)) | (apply Part.nilc))) ?_)
      rintro v post H' ⟨rfl, rfl⟩ hH
      try simp only [List.cons_append, List.nil_append] at hH
      subst hH
      rw [← hn] at hA ⊢
      clear hn
      refine SPL_nil ?_
      refine thenP_n ?_
      refine SP_seq ?_
      refine SP_seq ?_
      refine SP_region ?_
      refine SPL_y (y_move rfl) rfl ?_
      refine SPL_y (y_nil rfl) rfl ?_
      refine SPL_y (y_fa fld_195_5 rfl) rfl ?_
      refine SPL_y (y_load Tryz.isAgg30 rfl (by repeat (first | exact Cell.amid hpre rfl | exact Cell.head rfl | apply Cell.tail))) rfl ?_
      refine SPL_if (y_neq rfl rfl) rfl ?_ ?_
      · intro h20_4
        first | rw [if_pos h20_4] at hP | rw [if_neg h20_4] at hP | skip
        refine SPL_nil ?_
        refine thenP_n ?_
        refine SP_cond_t rfl ?_
        refine SP_seq ?_
        refine SP_region ?_
        refine SPL_y (y_assign rfl) rfl ?_
        refine SPL_nil ?_
        refine thenP_n ?_
        refine SP_ret ?_
        refine thenP_ret (bodyP_ret (Res1 rfl rfl) (Part.refl _) ?_)
        first | exact ⟨rfl, _, _, _, hA, rfl⟩ | (injection hP with hP; injection hP with h1 h2; subst h1; subst h2; exact ⟨rfl, _, _, _, hA, rfl⟩)
      intro h20_4
      first | rw [if_neg h20_4] at hP | rw [if_pos (Decidable.not_not.1 h20_4)] at hP | skip
      refine SPL_nil ?_
      refine thenP_n ?_
      refine SP_cond_f rfl ?_
      refine SP_skip ?_
      refine thenP_n ?_
      refine SP_seq ?_
      refine SP_region ?_
      refine SPL_y (y_move rfl) rfl ?_
      refine SPL_y (y_move rfl) rfl ?_
      refine SPL_y (y_move rfl) rfl ?_
      refine SPL_y (y_move rfl) rfl ?_
      refine SPL_y (y_move rfl) rfl ?_
      refine SPL_y (y_build B158 rfl rfl (by simp only [fillL, List.foldl_cons, List.foldl_nil, List.set_cons_zero, List.set_cons_succ]; exact rfl)) rfl ?_
      refine SPL_one rfl (SP1_call (pz_add x hP hA) Tryz.call223 rfl rfl (by repeat (first | exact Part.nil _ | (apply Part.cons; with_reducible (first | exact P0 | exact P1 | exact P2 | exact P3 | exact P4 | exact P5 | exact P6 | exact P7 | exact P8 | exact P9 | exact P10 | exact P11 | exact P12 | exact P13 | exact P14 | exact P15 | exact P16 | exact P17 | exact P18 | exact P19 | exact P20 | exact P21 | exact P22 | exact P23)) | (apply Part.flat; simp only [List.cons_append, List.nil_append]) | (apply Part.cons; (first | exact P0 | exact P1 | exact P2 | exact P3 | exact P4 | exact P5 | exact P6 | exact P7 | exact P8 | exact P9 | exact P10 | exact P11 | exact P12 | exact P13 | exact P14 | exact P15 | exact P16 | exact P17 | exact P18 | exact P19 | exact P20 | exact P21 | exact P22 | exact P23)) | (apply Part.nilc))) ?_)
      rintro v post H' ⟨rfl, nk, nc, sp, hA, rfl⟩ hH
      try simp only [List.cons_append, List.nil_append] at hH
      subst hH
      refine SPL_y (y_assign rfl) rfl ?_
      refine SPL_nil ?_
      refine thenP_n ?_
      refine SP_ret ?_
      refine bodyP_ret (Res1 rfl rfl) (Part.refl _) ?_
      first | exact ⟨rfl, _, _, _, hA, rfl⟩ | (injection hP with hP; injection hP with h1 h2; subst h1; subst h2; exact ⟨rfl, _, _, _, hA, rfl⟩)
  · try simp only [List.cons_append, List.nil_append] at hH
    subst hH
    try dsimp only [cond_true, cond_false, Bool.true_or, Bool.false_or] at hP
    refine SPL_nil ?_
    refine thenP_n ?_
    refine SP_cond_t rfl ?_
    refine SP_seq ?_
    refine SP_region ?_
    refine SPL_y (y_move rfl) rfl ?_
    refine SPL_y (y_move rfl) rfl ?_
    refine SPL_y (y_add rfl rfl (by omega)) rfl ?_
    obtain ⟨v1, m, hq, hP⟩ := bnd2 hP
    refine SPL_one rfl (SP1_call (hr.ifS hq hA) Tryz.call219 rfl rfl (by repeat (first | exact Part.nil _ | (apply Part.cons; with_reducible (first | exact P0 | exact P1 | exact P2 | exact P3 | exact P4 | exact P5 | exact P6 | exact P7 | exact P8 | exact P9 | exact P10 | exact P11 | exact P12 | exact P13 | exact P14 | exact P15 | exact P16 | exact P17 | exact P18 | exact P19 | exact P20 | exact P21 | exact P22 | exact P23)) | (apply Part.flat; simp only [List.cons_append, List.nil_append]) | (apply Part.cons; (first | exact P0 | exact P1 | exact P2 | exact P3 | exact P4 | exact P5 | exact P6 | exact P7 | exact P8 | exact P9 | exact P10 | exact P11 | exact P12 | exact P13 | exact P14 | exact P15 | exact P16 | exact P17 | exact P18 | exact P19 | exact P20 | exact P21 | exact P22 | exact P23)) | (apply Part.nilc))) ?_)
    rintro v post H' ⟨rfl, nk, nc, sp, hA, rfl⟩ hH
    try simp only [List.cons_append, List.nil_append] at hH
    subst hH
    refine SPL_y (y_assign rfl) rfl ?_
    refine SPL_nil ?_
    refine thenP_n ?_
    refine SP_seq ?_
    refine SP_seq ?_
    refine SP_region ?_
    refine SPL_y (y_move rfl) rfl ?_
    refine SPL_y (y_nil rfl) rfl ?_
    refine SPL_y (y_fa fld_195_5 rfl) rfl ?_
    refine SPL_y (y_load Tryz.isAgg30 rfl (by repeat (first | exact Cell.amid hpre rfl | exact Cell.head rfl | apply Cell.tail))) rfl ?_
    refine SPL_if (y_neq rfl rfl) rfl ?_ ?_
    · intro h13_4
      first | rw [if_pos h13_4] at hP | rw [if_neg h13_4] at hP | skip
      refine SPL_nil ?_
      refine thenP_n ?_
      refine SP_cond_t rfl ?_
      refine SP_seq ?_
      refine SP_region ?_
      refine SPL_y (y_assign rfl) rfl ?_
      refine SPL_nil ?_
      refine thenP_n ?_
      refine SP_ret ?_
      refine thenP_ret (thenP_ret (bodyP_ret (Res1 rfl rfl) (Part.refl _) ?_))
      first | exact ⟨rfl, _, _, _, hA, rfl⟩ | (injection hP with hP; injection hP with h1 h2; subst h1; subst h2; exact ⟨rfl, _, _, _, hA, rfl⟩)
    intro h13_4
    first | rw [if_neg h13_4] at hP | rw [if_pos (Decidable.not_not.1 h13_4)] at hP | skip
    refine SPL_nil ?_
    refine thenP_n ?_
    refine SP_cond_f rfl ?_
    refine SP_skip ?_
    refine thenP_n ?_
    refine SP_seq ?_
    refine SP_region ?_
    refine SPL_y (y_move rfl) rfl ?_
    refine SPL_y (y_move rfl) rfl ?_
    refine SPL_y (y_move rfl) rfl ?_
    refine SPL_y (y_move rfl) rfl ?_
    refine SPL_y (y_move rfl) rfl ?_
    refine SPL_y (y_build B158 rfl rfl (by simp only [fillL, List.foldl_cons, List.foldl_nil, List.set_cons_zero, List.set_cons_succ]; exact rfl)) rfl ?_
    refine SPL_one rfl (SP1_call (pz_add x hP hA) Tryz.call223 rfl rfl (by repeat (first | exact Part.nil _ | (apply Part.cons; with_reducible (first | exact P0 | exact P1 | exact P2 | exact P3 | exact P4 | exact P5 | exact P6 | exact P7 | exact P8 | exact P9 | exact P10 | exact P11 | exact P12 | exact P13 | exact P14 | exact P15 | exact P16 | exact P17 | exact P18 | exact P19 | exact P20 | exact P21 | exact P22 | exact P23)) | (apply Part.flat; simp only [List.cons_append, List.nil_append]) | (apply Part.cons; (first | exact P0 | exact P1 | exact P2 | exact P3 | exact P4 | exact P5 | exact P6 | exact P7 | exact P8 | exact P9 | exact P10 | exact P11 | exact P12 | exact P13 | exact P14 | exact P15 | exact P16 | exact P17 | exact P18 | exact P19 | exact P20 | exact P21 | exact P22 | exact P23)) | (apply Part.nilc))) ?_)
    rintro v post H' ⟨rfl, nk, nc, sp, hA, rfl⟩ hH
    try simp only [List.cons_append, List.nil_append] at hH
    subst hH
    refine SPL_y (y_assign rfl) rfl ?_
    refine SPL_nil ?_
    refine thenP_n ?_
    refine SP_ret ?_
    refine thenP_ret (bodyP_ret (Res1 rfl rfl) (Part.refl _) ?_)
    first | exact ⟨rfl, _, _, _, hA, rfl⟩ | (injection hP with hP; injection hP with h1 h2; subst h1; subst h2; exact ⟨rfl, _, _, _, hA, rfl⟩)

theorem pz_body (x : ZX) (rc : RZ) (hr : PK x rc) {n : Nat} {lv : Int} {extra : Int} {nk nc : Nat} {sp : List Value} {m m' : PZ} {v0 : Int} (hP : bodyZ x.src rc lv extra m = some (v0, m')) (hA : NzOk nc m.nodes sp) : Spec Tryz.prog 222 [pt x.b, I lv, I extra] [pzb x nk nc m, pzn nk m.nodes sp] (Ret (ZRet x m' (I v0))) := by
  unfold bodyZ at hP
  obtain ⟨hlv, hP⟩ := grd hP
  obtain ⟨hex, hP⟩ := grd hP
  refine Spec_enter Tryz.func222 rfl Tryz.ntmps222 rfl ?_
  show SP _ _ _ _ _ [(0, _), (1, _), (2, _)] _
  refine SP_seq ?_
  refine SP_region ?_
  refine SPL_y (y_assign rfl) rfl ?_
  refine SPL_nil ?_
  refine thenP_n ?_
  refine SP_seq ?_
  refine SP_region ?_
  refine SPL_y (y_move rfl) rfl ?_
  obtain ⟨m, hq, hP⟩ := bnd1 hP
  have hn := want_nodes hq
  try dsimp only at hn
  refine SPL_one rfl (SP1_call (pz_want x _ _ hq) Tryz.call270 rfl rfl (by repeat (first | exact Part.nil _ | (apply Part.cons; with_reducible (first | exact P0 | exact P1 | exact P2 | exact P3 | exact P4 | exact P5 | exact P6 | exact P7 | exact P8 | exact P9 | exact P10 | exact P11 | exact P12 | exact P13 | exact P14 | exact P15 | exact P16 | exact P17 | exact P18 | exact P19 | exact P20 | exact P21 | exact P22 | exact P23)) | (apply Part.flat; simp only [List.cons_append, List.nil_append]) | (apply Part.cons; (first | exact P0 | exact P1 | exact P2 | exact P3 | exact P4 | exact P5 | exact P6 | exact P7 | exact P8 | exact P9 | exact P10 | exact P11 | exact P12 | exact P13 | exact P14 | exact P15 | exact P16 | exact P17 | exact P18 | exact P19 | exact P20 | exact P21 | exact P22 | exact P23)) | (apply Part.nilc))) ?_)
  rintro v post H' ⟨rfl, rfl⟩ hH
  try simp only [List.cons_append, List.nil_append] at hH
  subst hH
  rw [← hn] at hA ⊢
  clear hn
  refine SPL_nil ?_
  refine thenP_n ?_
  refine SP_seq ?_
  refine SP_seq ?_
  refine SP_region ?_
  refine SPL_y (y_move rfl) rfl ?_
  refine SPL_y (y_nil rfl) rfl ?_
  refine SPL_y (y_fa fld_195_5 rfl) rfl ?_
  refine SPL_y (y_load Tryz.isAgg30 rfl (by repeat (first | exact Cell.amid hpre rfl | exact Cell.head rfl | apply Cell.tail))) rfl ?_
  refine SPL_if (y_neq rfl rfl) rfl ?_ ?_
  · intro h2_4
    first | rw [if_pos h2_4] at hP | rw [if_neg h2_4] at hP | skip
    refine SPL_nil ?_
    refine thenP_n ?_
    refine SP_cond_t rfl ?_
    refine SP_seq ?_
    refine SP_region ?_
    refine SPL_y (y_assign rfl) rfl ?_
    refine SPL_nil ?_
    refine thenP_n ?_
    refine SP_ret ?_
    refine thenP_ret (bodyP_ret (Res1 rfl rfl) (Part.refl _) ?_)
    first | exact ⟨rfl, _, _, _, hA, rfl⟩ | (injection hP with hP; injection hP with h1 h2; subst h1; subst h2; exact ⟨rfl, _, _, _, hA, rfl⟩)
  intro h2_4
  first | rw [if_neg h2_4] at hP | rw [if_pos (Decidable.not_not.1 h2_4)] at hP | skip
  refine SPL_nil ?_
  refine thenP_n ?_
  refine SP_cond_f rfl ?_
  refine SP_skip ?_
  refine thenP_n ?_
  refine SP_seq ?_
  obtain ⟨hb1, hP⟩ := grd hP
  obtain ⟨hb2, hP⟩ := grd hP
  refine SP_region ?_
  refine SPL_y (y_move rfl) rfl ?_
  refine SPL_y (y_move rfl) rfl ?_
  refine SPL_y (y_nil rfl) rfl ?_
  refine SPL_y (y_fa fld_195_7 rfl) rfl ?_
  refine SPL_y (y_load Tryz.isAgg3 rfl (by repeat (first | exact Cell.amid hpre rfl | exact Cell.head rfl | apply Cell.tail))) rfl ?_
  refine SPL_y (y_move rfl) rfl ?_
  refine SPL_y (y_add rfl rfl (by omega)) rfl ?_
  refine SPL_y (y_nil rfl) rfl ?_
  refine SPL_y (y_fa fld_195_7 rfl) rfl ?_
  refine SPL_one rfl (SP1_store Tryz.sizeOf3 rfl rfl rfl (by first | exact U0 | exact U1 | exact U2 | exact U3 | exact U4 | exact U5 | exact U6 | exact U7 | exact U8 | exact U9 | exact U10 | exact U11 | exact U12 | exact U13 | exact U14 | exact U15 | exact U16 | exact U17 | exact U18 | exact U19 | exact U20 | exact U21 | exact U22 | exact U23) (by rfl) ?_)
  refine SPL_nil ?_
  refine thenP_n ?_
  refine SP_seq ?_
  refine SP_region ?_
  refine SPL_y (y_move rfl) rfl ?_
  refine SPL_y (y_nil rfl) rfl ?_
  refine SPL_y (y_fa fld_195_8 rfl) rfl ?_
  refine SPL_y (y_load Tryz.isAgg3 rfl (by repeat (first | exact Cell.amid hpre rfl | exact Cell.head rfl | apply Cell.tail))) rfl ?_
  refine SPL_y (y_add rfl rfl (by omega)) rfl ?_
  refine SPL_y (y_nil rfl) rfl ?_
  refine SPL_y (y_fa fld_195_8 rfl) rfl ?_
  refine SPL_one rfl (SP1_store Tryz.sizeOf3 rfl rfl rfl (by first | exact U0 | exact U1 | exact U2 | exact U3 | exact U4 | exact U5 | exact U6 | exact U7 | exact U8 | exact U9 | exact U10 | exact U11 | exact U12 | exact U13 | exact U14 | exact U15 | exact U16 | exact U17 | exact U18 | exact U19 | exact U20 | exact U21 | exact U22 | exact U23) (by rfl) ?_)
  refine SPL_nil ?_
  refine thenP_n ?_
  refine SP_seq ?_
  refine SP_region ?_
  refine SPL_y (y_move rfl) rfl ?_
  refine SPL_y (y_move rfl) rfl ?_
  refine SPL_y (y_add rfl rfl (by omega)) rfl ?_
  obtain ⟨v1, m, hq, hP⟩ := bnd2 hP
  refine SPL_one rfl (SP1_call (hr.block hq hA) Tryz.call89 rfl rfl (by repeat (first | exact Part.nil _ | (apply Part.cons; with_reducible (first | exact P0 | exact P1 | exact P2 | exact P3 | exact P4 | exact P5 | exact P6 | exact P7 | exact P8 | exact P9 | exact P10 | exact P11 | exact P12 | exact P13 | exact P14 | exact P15 | exact P16 | exact P17 | exact P18 | exact P19 | exact P20 | exact P21 | exact P22 | exact P23)) | (apply Part.flat; simp only [List.cons_append, List.nil_append]) | (apply Part.cons; (first | exact P0 | exact P1 | exact P2 | exact P3 | exact P4 | exact P5 | exact P6 | exact P7 | exact P8 | exact P9 | exact P10 | exact P11 | exact P12 | exact P13 | exact P14 | exact P15 | exact P16 | exact P17 | exact P18 | exact P19 | exact P20 | exact P21 | exact P22 | exact P23)) | (apply Part.nilc))) ?_)
  rintro v post H' ⟨rfl, nk, nc, sp, hA, rfl⟩ hH
  try simp only [List.cons_append, List.nil_append] at hH
  subst hH
  refine SPL_y (y_assign rfl) rfl ?_
  refine SPL_nil ?_
  refine thenP_n ?_
  refine SP_seq ?_
  refine SP_region ?_
  refine SPL_y (y_move rfl) rfl ?_
  refine SPL_y (y_nil rfl) rfl ?_
  refine SPL_y (y_fa fld_195_8 rfl) rfl ?_
  refine SPL_y (y_load Tryz.isAgg3 rfl (by repeat (first | exact Cell.amid hpre rfl | exact Cell.head rfl | apply Cell.tail))) rfl ?_
  refine SPL_y (y_subw rfl rfl rfl) rfl ?_
  refine SPL_y (y_nil rfl) rfl ?_
  refine SPL_y (y_fa fld_195_8 rfl) rfl ?_
  refine SPL_one rfl (SP1_store Tryz.sizeOf3 rfl rfl rfl (by first | exact U0 | exact U1 | exact U2 | exact U3 | exact U4 | exact U5 | exact U6 | exact U7 | exact U8 | exact U9 | exact U10 | exact U11 | exact U12 | exact U13 | exact U14 | exact U15 | exact U16 | exact U17 | exact U18 | exact U19 | exact U20 | exact U21 | exact U22 | exact U23) (by rfl) ?_)
  refine SPL_nil ?_
  refine thenP_n ?_
  refine SP_seq ?_
  refine SP_region ?_
  refine SPL_y (y_move rfl) rfl ?_
  refine SPL_y (y_move rfl) rfl ?_
  refine SPL_y (y_nil rfl) rfl ?_
  refine SPL_y (y_fa fld_195_7 rfl) rfl ?_
  refine SPL_y (y_load Tryz.isAgg3 rfl (by repeat (first | exact Cell.amid hpre rfl | exact Cell.head rfl | apply Cell.tail))) rfl ?_
  refine SPL_y (y_move rfl) rfl ?_
  refine SPL_y (y_subw rfl rfl rfl) rfl ?_
  refine SPL_y (y_nil rfl) rfl ?_
  refine SPL_y (y_fa fld_195_7 rfl) rfl ?_
  refine SPL_one rfl (SP1_store Tryz.sizeOf3 rfl rfl rfl (by first | exact U0 | exact U1 | exact U2 | exact U3 | exact U4 | exact U5 | exact U6 | exact U7 | exact U8 | exact U9 | exact U10 | exact U11 | exact U12 | exact U13 | exact U14 | exact U15 | exact U16 | exact U17 | exact U18 | exact U19 | exact U20 | exact U21 | exact U22 | exact U23) (by rfl) ?_)
  refine SPL_nil ?_
  refine thenP_n ?_
  refine SP_seq ?_
  refine SP_region ?_
  refine SPL_y (y_move rfl) rfl ?_
  obtain ⟨m, hq, hP⟩ := bnd1 hP
  have hn := want_nodes hq
  try dsimp only at hn
  refine SPL_one rfl (SP1_call (pz_want x _ _ hq) Tryz.call270 rfl rfl (by repeat (first | exact Part.nil _ | (apply Part.cons; with_reducible (first | exact P0 | exact P1 | exact P2 | exact P3 | exact P4 | exact P5 | exact P6 | exact P7 | exact P8 | exact P9 | exact P10 | exact P11 | exact P12 | exact P13 | exact P14 | exact P15 | exact P16 | exact P17 | exact P18 | exact P19 | exact P20 | exact P21 | exact P22 | exact P23)) | (apply Part.flat; simp only [List.cons_append, List.nil_append]) | (apply Part.cons; (first | exact P0 | exact P1 | exact P2 | exact P3 | exact P4 | exact P5 | exact P6 | exact P7 | exact P8 | exact P9 | exact P10 | exact P11 | exact P12 | exact P13 | exact P14 | exact P15 | exact P16 | exact P17 | exact P18 | exact P19 | exact P20 | exact P21 | exact P22 | exact P23)) | (apply Part.nilc))) ?_)
  rintro v post H' ⟨rfl, rfl⟩ hH
  try simp only [List.cons_append, List.nil_append] at hH
  subst hH
  rw [← hn] at hA ⊢
  clear hn
  refine SPL_nil ?_
  refine thenP_n ?_
  refine SP_seq ?_
  refine SP_region ?_
  refine SPL_y (y_move rfl) rfl ?_
  refine SPL_y (y_assign rfl) rfl ?_
  refine SPL_nil ?_
  refine thenP_n ?_
  refine SP_ret ?_
  refine bodyP_ret (Res1 rfl rfl) (Part.refl _) ?_
  first | exact ⟨rfl, _, _, _, hA, rfl⟩ | (injection hP with hP; injection hP with h1 h2; subst h1; subst h2; exact ⟨rfl, _, _, _, hA, rfl⟩)

end Go.Sl
