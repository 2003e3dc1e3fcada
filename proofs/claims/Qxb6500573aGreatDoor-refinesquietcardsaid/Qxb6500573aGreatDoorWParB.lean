/- Walks: package syntax, the parser: lists, literals, primary expressions (made by program out of short notes) -/
import Derived.Test.Qxb6500573aGreatDoorWPar
namespace Go.Sl
open Go Go.Wl Go.Proofs
set_option maxRecDepth 100000
set_option linter.unusedVariables false
set_option linter.unusedSimpArgs false
def ndOk (x : PX) (t : T) (s' : PS) (v : Value) (H : Hp) : Prop := ∃ sn, IsN t v sn ∧ H = [x.gs, x.b s', x.st, sn]
def lsOk (x : PX) (r : Option (List T)) (s' : PS) (v : Value) (H : Hp) : Prop := match r with
  | none => v = .tuple #[.slice none 0 0, .bool false] ∧ H = [x.gs, x.b s', x.st]
  | some l => ∃ a m c sn, IsL l a m c sn ∧ v = .tuple #[.slice a (m : Nat) c, .bool true] ∧ H = [x.gs, x.b s', x.st, sn]
def flOk (x : PX) (t : T) (s' : PS) (v : Value) (H : Hp) : Prop := (t.isNil = true ∧ v = .pointer none ∧ H = [x.gs, x.b s', x.st]) ∨ (t.isNil = false ∧ ∃ b sn, v = pt b ∧ IsN t (.iface 355 (pt b)) sn ∧ H = [x.gs, x.b s', x.st, sn])
structure RecOk (x : PX) (rc : Rec) : Prop where
  block : ∀ room s r s', rc.block room s = some (r, s') → Spec Tryz.prog 69 [pt x.p, I room] [x.gs, x.b s, x.st] (Ret (lsOk x r s'))
  expr : ∀ room least s r s', rc.expr room least s = some (r, s') → Spec Tryz.prog 190 [pt x.p, I room, I least] [x.gs, x.b s, x.st] (Ret (ndOk x r s'))
  unary : ∀ room s r s', rc.unary room s = some (r, s') → Spec Tryz.prog 243 [pt x.p, I room] [x.gs, x.b s, x.st] (Ret (ndOk x r s'))
  branch : ∀ room s r s', rc.branch room s = some (r, s') → Spec Tryz.prog 188 [pt x.p, I room] [x.gs, x.b s, x.st] (Ret (ndOk x r s'))
theorem pr_list (x : PX) (rc : Rec) (hr : RecOk x rc) (n0 : Nat) {room closing most : Int} {s s' : PS} {r : Option (List T)} (hP : listL x.toks rc n0 room closing most [] s = some (r, s')) : Spec Tryz.prog 245 [pt x.p, I room, I closing, I most] [x.gs, x.b s, x.st] (Ret (lsOk x r s')) := by
  refine Spec_enter Tryz.func245 rfl Tryz.ntmps245 rfl ?_
  show SP _ _ _ _ _ [(0, _), (1, _), (2, _), (3, _)] _
  refine SP_seq ?_
  refine SP_region ?_
  refine SPL_y (y_assign rfl) rfl ?_
  refine SPL_y (y_assign rfl) rfl ?_
  refine SPL_nil ?_
  refine thenP_n ?_
  refine SP_seq ?_
  refine SP_region ?_
  refine SPL_y (y_assign rfl) rfl ?_
  refine SPL_nil ?_
  refine thenP_n ?_
  refine SP_seq ?_
  refine SP_block ?_
  refine SP_loop (G := Nat × List T × PS × Option Addr × Nat × Nat × List Value × Seg × Seg) (fun g => g.1) (fun g => [(0, pt x.p), (1, I room), (2, I closing), (3, I most), (10, .slice g.2.2.2.1 g.2.2.2.2.1 g.2.2.2.2.2.1)]) (fun g => [x.gs, x.b g.2.2.1, x.st, g.2.2.2.2.2.2.2.1, g.2.2.2.2.2.2.2.2]) (fun g => IsM g.2.1 g.2.2.2.2.2.2.1 g.2.2.2.2.2.2.2.2 ∧ Arr 236 1 g.2.2.2.1 g.2.2.2.2.1 g.2.2.2.2.2.1 g.2.2.2.2.2.2.1 g.2.2.2.2.2.2.2.1 ∧ g.2.2.2.2.1 = g.2.1.length ∧ listL x.toks rc g.1 room closing most g.2.1 g.2.2.1 = some (r, s')) ((n0, [], s, none, 0, 0, [], [], [])) (⟨.nil, Arr.nil _ _, rfl, hP⟩) (by repeat (first | exact Sub.nil _ | refine Sub.cons rfl ?_)) (by repeat (first | exact Part.nil _ | (apply Part.cons; (first | exact P0 | exact P1 | exact P2 | exact P3 | exact P4 | exact P5 | exact P6 | exact P7 | exact P8 | exact P9 | exact P10 | exact P11 | exact P12 | exact P13 | exact P14 | exact P15 | exact P16 | exact P17 | exact P18 | exact P19 | exact P20 | exact P21 | exact P22 | exact P23)) | (apply Part.flat; simp only [List.cons_append, List.nil_append]) | (apply Part.nilc))) ?_
  rintro ⟨n0, l, s, a, m, c, vs, sa, sm⟩ ⟨hM, hA, hm, hP⟩
  dsimp only at hM hA hm hP ⊢
  subst hm
  cases n0 with
  | zero => cases hP
  | succ n =>
  rw [listL] at hP
  refine SP_seq ?_
  refine SP_seq ?_
  refine SP_region ?_
  refine SPL_y (y_move rfl) rfl ?_
  refine SPL_y (y_nil rfl) rfl ?_
  refine SPL_y (y_fa fld_170_2 rfl) rfl ?_
  refine SPL_y (y_fa fld_156_0 rfl) rfl ?_
  refine SPL_y (y_load Tryz.isAgg154 rfl (by repeat (first | exact Cell.amid hpre rfl | exact Cell.head rfl | apply Cell.tail))) rfl ?_
  refine SPL_y (y_move rfl) rfl ?_
  refine SPL_ifn (y_neq rfl rfl) rfl ?_ ?_
  · intro h2_6
    first | rw [if_neg h2_6] at hP | rw [if_pos (Decidable.not_not.1 h2_6)] at hP | skip
    refine SPL_nil ?_
    refine thenP_n ?_
    refine SP_cond_f rfl ?_
    refine SP_exit ?_
    refine thenP_exit ?_
    refine thenP_exit ?_
    refine inBlockP_hit ?_
    refine thenP_n ?_
    refine SP_seq ?_
    refine SP_region ?_
    refine SPL_y (y_move rfl) rfl ?_
    obtain ⟨s12, hq12, hP⟩ := bnd1 hP
    refine SPL_one rfl (SP1_call (pr_next x hq12) Tryz.call186 rfl rfl (by repeat (first | exact Part.nil _ | (apply Part.cons; (first | exact P0 | exact P1 | exact P2 | exact P3 | exact P4 | exact P5 | exact P6 | exact P7 | exact P8 | exact P9 | exact P10 | exact P11 | exact P12 | exact P13 | exact P14 | exact P15 | exact P16 | exact P17 | exact P18 | exact P19 | exact P20 | exact P21 | exact P22 | exact P23)) | (apply Part.flat; simp only [List.cons_append, List.nil_append]) | (apply Part.nilc))) ?_)
    rintro v post H' ⟨rfl, rfl⟩ hH
    try simp only [List.cons_append, List.nil_append] at hH
    subst hH
    refine SPL_nil ?_
    refine thenP_n ?_
    refine SP_seq ?_
    refine SP_region ?_
    refine SPL_y (y_move rfl) rfl ?_
    refine SPL_y (y_assign rfl) rfl ?_
    refine SPL_y (y_assign rfl) rfl ?_
    refine SPL_nil ?_
    refine thenP_n ?_
    refine SP_ret ?_
    refine bodyP_ret (H' := [x.gs, x.b s12, x.st, List.flatten [sa, sm]]) (Res2 rfl rfl rfl) (by repeat (first | exact Part.nil _ | (apply Part.cons; (first | exact P0 | exact P1 | exact P2 | exact P3 | exact P4 | exact P5 | exact P6 | exact P7 | exact P8 | exact P9 | exact P10 | exact P11 | exact P12 | exact P13 | exact P14 | exact P15 | exact P16 | exact P17 | exact P18 | exact P19 | exact P20 | exact P21 | exact P22 | exact P23)) | (apply Part.flat; simp only [List.cons_append, List.nil_append]) | (apply Part.nilc))) ?_
    injection hP with hP
    injection hP with h1 h2
    subst h1
    subst h2
    exact ⟨_, _, _, _, IsL.mk hM hA, rfl, rfl⟩
  intro h2_6
  first | rw [if_pos h2_6] at hP | rw [if_neg h2_6] at hP | skip
  refine SPL_nil ?_
  refine thenP_n ?_
  refine SP_cond_t rfl ?_
  refine SP_skip ?_
  refine thenP_n ?_
  refine SP_block ?_
  refine SP_seq ?_
  refine SP_seq ?_
  refine SP_region ?_
  refine SPL_y (y_move rfl) rfl ?_
  refine SPL_y (y_len_l Tryz.underlying172 rfl) rfl ?_
  refine SPL_ifn (y_gtr rfl rfl) rfl ?_ ?_
  · intro h3_2
    first | rw [if_neg h3_2] at hP | rw [if_pos (Decidable.not_not.1 h3_2)] at hP | skip
    have hemp : l.isEmpty = true := by cases l with
      | nil => rfl
      | cons => exact absurd (by simp) h3_2
    refine SPL_y (y_move rfl) rfl ?_
    refine SPL_gn rfl rfl rfl rfl ?_
    refine SPL_gn rfl rfl rfl rfl ?_
    refine SPL_gn rfl rfl rfl rfl ?_
    refine SPL_y (y_pick_f rfl rfl) rfl ?_
    refine SPL_nil ?_
    refine thenP_n ?_
    refine SP_cond_f rfl ?_
    refine SP_skip ?_
    refine thenP_n ?_
    refine SP_seq ?_
    refine SP_seq ?_
    obtain ⟨b3, s3, hq3, hP⟩ := bnd2 hP
    rw [hemp] at hq3
    dsimp only [commaP, cond_true] at hq3
    injection hq3 with hq3
    injection hq3 with h1 h2
    subst h1
    subst h2
    dsimp only [cond_true] at hP
    refine SP_region ?_
    refine SPL_y (y_move rfl) rfl ?_
    refine SPL_y (y_len_l Tryz.underlying172 rfl) rfl ?_
    refine SPL_y (y_move rfl) rfl ?_
    refine SPL_if (y_eql rfl rfl) rfl ?_ ?_
    · intro h5_3
      first | rw [if_pos h5_3] at hP | rw [if_neg h5_3] at hP | skip
      refine SPL_nil ?_
      refine thenP_n ?_
      refine SP_cond_t rfl ?_
      refine SP_seq ?_
      refine SP_region ?_
      refine SPL_y (y_move rfl) rfl ?_
      refine SPL_one rfl (SP1_call (pr_fail x (19) _) Tryz.call70 rfl rfl (by repeat (first | exact Part.nil _ | (apply Part.cons; (first | exact P0 | exact P1 | exact P2 | exact P3 | exact P4 | exact P5 | exact P6 | exact P7 | exact P8 | exact P9 | exact P10 | exact P11 | exact P12 | exact P13 | exact P14 | exact P15 | exact P16 | exact P17 | exact P18 | exact P19 | exact P20 | exact P21 | exact P22 | exact P23)) | (apply Part.flat; simp only [List.cons_append, List.nil_append]) | (apply Part.nilc))) ?_)
      rintro v post H' ⟨rfl, rfl⟩ hH
      try simp only [List.cons_append, List.nil_append] at hH
      subst hH
      refine SPL_nil ?_
      refine thenP_n ?_
      refine SP_seq ?_
      refine SP_region ?_
      refine SPL_y (y_assign rfl) rfl ?_
      refine SPL_y (y_assign rfl) rfl ?_
      refine SPL_nil ?_
      refine thenP_n ?_
      refine SP_ret ?_
      refine thenP_ret (inBlockP_ret (thenP_ret (inBlockP_ret (thenP_ret (bodyP_ret (H' := [x.gs, x.b _, x.st]) (Res2 rfl rfl rfl) (by repeat (first | exact Part.nil _ | (apply Part.cons; (first | exact P0 | exact P1 | exact P2 | exact P3 | exact P4 | exact P5 | exact P6 | exact P7 | exact P8 | exact P9 | exact P10 | exact P11 | exact P12 | exact P13 | exact P14 | exact P15 | exact P16 | exact P17 | exact P18 | exact P19 | exact P20 | exact P21 | exact P22 | exact P23)) | (apply Part.flat; simp only [List.cons_append, List.nil_append]) | (apply Part.nilc))) ?_)))))
      injection hP with hP
      injection hP with h1 h2
      subst h1
      subst h2
      exact ⟨rfl, rfl⟩
    intro h5_3
    first | rw [if_neg h5_3] at hP | rw [if_pos (Decidable.not_not.1 h5_3)] at hP | skip
    refine SPL_nil ?_
    refine thenP_n ?_
    refine SP_cond_f rfl ?_
    refine SP_skip ?_
    refine thenP_n ?_
    refine SP_seq ?_
    refine SP_region ?_
    refine SPL_y (y_move rfl) rfl ?_
    refine SPL_y (y_move rfl) rfl ?_
    obtain ⟨t8, s8, hq8, hP⟩ := bnd2 hP
    refine SPL_one rfl (SP1_call (hr.expr _ _ _ _ _ hq8) Tryz.call190 rfl rfl (by repeat (first | exact Part.nil _ | (apply Part.cons; (first | exact P0 | exact P1 | exact P2 | exact P3 | exact P4 | exact P5 | exact P6 | exact P7 | exact P8 | exact P9 | exact P10 | exact P11 | exact P12 | exact P13 | exact P14 | exact P15 | exact P16 | exact P17 | exact P18 | exact P19 | exact P20 | exact P21 | exact P22 | exact P23)) | (apply Part.flat; simp only [List.cons_append, List.nil_append]) | (apply Part.nilc))) ?_)
    rintro v8 post H' ⟨sn8, hN8, rfl⟩ hH
    try simp only [List.cons_append, List.nil_append] at hH
    subst hH
    refine SPL_y (y_assign rfl) rfl ?_
    refine SPL_nil ?_
    refine thenP_n ?_
    refine SP_seq ?_
    refine SP_seq ?_
    refine SP_region ?_
    refine SPL_y (y_move rfl) rfl ?_
    refine SPL_if (y_nE Tryz.underlying292 rfl (by assumption)) rfl ?_ ?_
    · intro h9_1
      first | rw [if_pos h9_1] at hP | rw [if_neg h9_1] at hP | skip
      refine SPL_nil ?_
      refine thenP_n ?_
      refine SP_cond_t rfl ?_
      refine SP_seq ?_
      refine SP_region ?_
      refine SPL_y (y_assign rfl) rfl ?_
      refine SPL_y (y_assign rfl) rfl ?_
      refine SPL_nil ?_
      refine thenP_n ?_
      refine SP_ret ?_
      refine thenP_ret (inBlockP_ret (thenP_ret (inBlockP_ret (thenP_ret (bodyP_ret (H' := [x.gs, x.b _, x.st]) (Res2 rfl rfl rfl) (by repeat (first | exact Part.nil _ | (apply Part.cons; (first | exact P0 | exact P1 | exact P2 | exact P3 | exact P4 | exact P5 | exact P6 | exact P7 | exact P8 | exact P9 | exact P10 | exact P11 | exact P12 | exact P13 | exact P14 | exact P15 | exact P16 | exact P17 | exact P18 | exact P19 | exact P20 | exact P21 | exact P22 | exact P23)) | (apply Part.flat; simp only [List.cons_append, List.nil_append]) | (apply Part.nilc))) ?_)))))
      injection hP with hP
      injection hP with h1 h2
      subst h1
      subst h2
      exact ⟨rfl, rfl⟩
    intro h9_1
    first | rw [if_neg h9_1] at hP | rw [if_pos (Decidable.not_not.1 h9_1)] at hP | skip
    refine SPL_nil ?_
    refine thenP_n ?_
    refine SP_cond_f rfl ?_
    refine SP_skip ?_
    refine thenP_n ?_
    obtain ⟨nb8, rfl⟩ := hN8.shape (by simpa using h9_1)
    have hl1 : l.length < 100000 := Decidable.byContradiction fun q => by rw [if_neg q] at hP; cases hP
    rw [if_pos hl1] at hP
    refine SP_region ?_
    refine SPL_y (y_move rfl) rfl ?_
    refine SPL_y (y_move rfl) rfl ?_
    refine SPL_one rfl (SP1_slice1 el_172 rfl rfl rfl rfl rfl ?_)
    intro b40
    refine SPL_one rfl (SP1_append el_172 (.inl Tryz.underlying172) rfl rfl hA (by first | exact P0 | exact P1 | exact P2 | exact P3 | exact P4 | exact P5 | exact P6 | exact P7 | exact P8 | exact P9 | exact P10 | exact P11 | exact P12 | exact P13 | exact P14 | exact P15 | exact P16 | exact P17 | exact P18 | exact P19 | exact P20 | exact P21 | exact P22 | exact P23) (Src.of (by repeat (first | exact Cells.all _ | exact Cells.amid hpre rfl (by decide) | exact Cells.head rfl | apply Cells.tail)) (by rfl)) (by rfl) (by omega) rfl ?_)
    intro a2 c2 s2 h2
    refine SPL_y (y_assign rfl) rfl ?_
    refine SPL_nil ?_
    refine inBlockP_n ?_
    refine thenP_n ?_
    exact Again.intro ((n, l ++ [t8], s8, a2, l.length + 1, c2, vs ++ [.iface t8.ty (pt nb8)], s2, List.flatten [sm, sn8])) (⟨by simpa using hM.snoc hN8, h2, by simp, hP⟩) (by dsimp only; omega) (by repeat (first | exact Sub.nil _ | refine Sub.cons rfl ?_)) (by repeat (first | exact Part.nil _ | (apply Part.cons; (first | exact P0 | exact P1 | exact P2 | exact P3 | exact P4 | exact P5 | exact P6 | exact P7 | exact P8 | exact P9 | exact P10 | exact P11 | exact P12 | exact P13 | exact P14 | exact P15 | exact P16 | exact P17 | exact P18 | exact P19 | exact P20 | exact P21 | exact P22 | exact P23)) | (apply Part.flat; simp only [List.cons_append, List.nil_append]) | (apply Part.nilc)))
  intro h3_2
  first | rw [if_pos h3_2] at hP | rw [if_neg h3_2] at hP | skip
  have hemp : l.isEmpty = false := by cases l with
    | nil => exact absurd h3_2 (by simp)
    | cons => rfl
  refine SPL_y (y_move rfl) rfl ?_
  refine SPL_gy rfl rfl ?_
  refine SPL_y (y_move rfl) rfl ?_
  refine SPL_gy rfl rfl ?_
  obtain ⟨b3, s3, hq3, hP⟩ := bnd2 hP
  rw [hemp] at hq3
  dsimp only [commaP, cond_false] at hq3
  refine SPL_one rfl (SP1_call (pr_expect x hq3) Tryz.call242 rfl rfl (by repeat (first | exact Part.nil _ | (apply Part.cons; (first | exact P0 | exact P1 | exact P2 | exact P3 | exact P4 | exact P5 | exact P6 | exact P7 | exact P8 | exact P9 | exact P10 | exact P11 | exact P12 | exact P13 | exact P14 | exact P15 | exact P16 | exact P17 | exact P18 | exact P19 | exact P20 | exact P21 | exact P22 | exact P23)) | (apply Part.flat; simp only [List.cons_append, List.nil_append]) | (apply Part.nilc))) ?_)
  rintro v post H' ⟨rfl, rfl⟩ hH
  rcases b3 with _ | _
  · try simp only [List.cons_append, List.nil_append] at hH
    subst hH
    try dsimp only [cond_true, cond_false, Bool.true_or, Bool.false_or] at hP
    refine SPL_gy rfl rfl ?_
    refine SPL_y (y_not_f rfl) rfl ?_
    refine SPL_y (y_pick_t rfl rfl) rfl ?_
    refine SPL_nil ?_
    refine thenP_n ?_
    refine SP_cond_t rfl ?_
    refine SP_seq ?_
    refine SP_region ?_
    refine SPL_y (y_assign rfl) rfl ?_
    refine SPL_y (y_assign rfl) rfl ?_
    refine SPL_nil ?_
    refine thenP_n ?_
    refine SP_ret ?_
    refine thenP_ret (inBlockP_ret (thenP_ret (inBlockP_ret (thenP_ret (bodyP_ret (H' := [x.gs, x.b _, x.st]) (Res2 rfl rfl rfl) (by repeat (first | exact Part.nil _ | (apply Part.cons; (first | exact P0 | exact P1 | exact P2 | exact P3 | exact P4 | exact P5 | exact P6 | exact P7 | exact P8 | exact P9 | exact P10 | exact P11 | exact P12 | exact P13 | exact P14 | exact P15 | exact P16 | exact P17 | exact P18 | exact P19 | exact P20 | exact P21 | exact P22 | exact P23)) | (apply Part.flat; simp only [List.cons_append, List.nil_append]) | (apply Part.nilc))) ?_)))))
    injection hP with hP
    injection hP with h1 h2
    subst h1
    subst h2
    exact ⟨rfl, rfl⟩
  · try simp only [List.cons_append, List.nil_append] at hH
    subst hH
    try dsimp only [cond_true, cond_false, Bool.true_or, Bool.false_or] at hP
    refine SPL_gy rfl rfl ?_
    refine SPL_y (y_not_t rfl) rfl ?_
    refine SPL_y (y_pick_t rfl rfl) rfl ?_
    refine SPL_nil ?_
    refine thenP_n ?_
    refine SP_cond_f rfl ?_
    refine SP_skip ?_
    refine thenP_n ?_
    refine SP_seq ?_
    refine SP_seq ?_
    refine SP_region ?_
    refine SPL_y (y_move rfl) rfl ?_
    refine SPL_y (y_len_l Tryz.underlying172 rfl) rfl ?_
    refine SPL_y (y_move rfl) rfl ?_
    refine SPL_if (y_eql rfl rfl) rfl ?_ ?_
    · intro h5_3
      first | rw [if_pos h5_3] at hP | rw [if_neg h5_3] at hP | skip
      refine SPL_nil ?_
      refine thenP_n ?_
      refine SP_cond_t rfl ?_
      refine SP_seq ?_
      refine SP_region ?_
      refine SPL_y (y_move rfl) rfl ?_
      refine SPL_one rfl (SP1_call (pr_fail x (19) _) Tryz.call70 rfl rfl (by repeat (first | exact Part.nil _ | (apply Part.cons; (first | exact P0 | exact P1 | exact P2 | exact P3 | exact P4 | exact P5 | exact P6 | exact P7 | exact P8 | exact P9 | exact P10 | exact P11 | exact P12 | exact P13 | exact P14 | exact P15 | exact P16 | exact P17 | exact P18 | exact P19 | exact P20 | exact P21 | exact P22 | exact P23)) | (apply Part.flat; simp only [List.cons_append, List.nil_append]) | (apply Part.nilc))) ?_)
      rintro v post H' ⟨rfl, rfl⟩ hH
      try simp only [List.cons_append, List.nil_append] at hH
      subst hH
      refine SPL_nil ?_
      refine thenP_n ?_
      refine SP_seq ?_
      refine SP_region ?_
      refine SPL_y (y_assign rfl) rfl ?_
      refine SPL_y (y_assign rfl) rfl ?_
      refine SPL_nil ?_
      refine thenP_n ?_
      refine SP_ret ?_
      refine thenP_ret (inBlockP_ret (thenP_ret (inBlockP_ret (thenP_ret (bodyP_ret (H' := [x.gs, x.b _, x.st]) (Res2 rfl rfl rfl) (by repeat (first | exact Part.nil _ | (apply Part.cons; (first | exact P0 | exact P1 | exact P2 | exact P3 | exact P4 | exact P5 | exact P6 | exact P7 | exact P8 | exact P9 | exact P10 | exact P11 | exact P12 | exact P13 | exact P14 | exact P15 | exact P16 | exact P17 | exact P18 | exact P19 | exact P20 | exact P21 | exact P22 | exact P23)) | (apply Part.flat; simp only [List.cons_append, List.nil_append]) | (apply Part.nilc))) ?_)))))
      injection hP with hP
      injection hP with h1 h2
      subst h1
      subst h2
      exact ⟨rfl, rfl⟩
    intro h5_3
    first | rw [if_neg h5_3] at hP | rw [if_pos (Decidable.not_not.1 h5_3)] at hP | skip
    refine SPL_nil ?_
    refine thenP_n ?_
    refine SP_cond_f rfl ?_
    refine SP_skip ?_
    refine thenP_n ?_
    refine SP_seq ?_
    refine SP_region ?_
    refine SPL_y (y_move rfl) rfl ?_
    refine SPL_y (y_move rfl) rfl ?_
    obtain ⟨t8, s8, hq8, hP⟩ := bnd2 hP
    refine SPL_one rfl (SP1_call (hr.expr _ _ _ _ _ hq8) Tryz.call190 rfl rfl (by repeat (first | exact Part.nil _ | (apply Part.cons; (first | exact P0 | exact P1 | exact P2 | exact P3 | exact P4 | exact P5 | exact P6 | exact P7 | exact P8 | exact P9 | exact P10 | exact P11 | exact P12 | exact P13 | exact P14 | exact P15 | exact P16 | exact P17 | exact P18 | exact P19 | exact P20 | exact P21 | exact P22 | exact P23)) | (apply Part.flat; simp only [List.cons_append, List.nil_append]) | (apply Part.nilc))) ?_)
    rintro v8 post H' ⟨sn8, hN8, rfl⟩ hH
    try simp only [List.cons_append, List.nil_append] at hH
    subst hH
    refine SPL_y (y_assign rfl) rfl ?_
    refine SPL_nil ?_
    refine thenP_n ?_
    refine SP_seq ?_
    refine SP_seq ?_
    refine SP_region ?_
    refine SPL_y (y_move rfl) rfl ?_
    refine SPL_if (y_nE Tryz.underlying292 rfl (by assumption)) rfl ?_ ?_
    · intro h9_1
      first | rw [if_pos h9_1] at hP | rw [if_neg h9_1] at hP | skip
      refine SPL_nil ?_
      refine thenP_n ?_
      refine SP_cond_t rfl ?_
      refine SP_seq ?_
      refine SP_region ?_
      refine SPL_y (y_assign rfl) rfl ?_
      refine SPL_y (y_assign rfl) rfl ?_
      refine SPL_nil ?_
      refine thenP_n ?_
      refine SP_ret ?_
      refine thenP_ret (inBlockP_ret (thenP_ret (inBlockP_ret (thenP_ret (bodyP_ret (H' := [x.gs, x.b _, x.st]) (Res2 rfl rfl rfl) (by repeat (first | exact Part.nil _ | (apply Part.cons; (first | exact P0 | exact P1 | exact P2 | exact P3 | exact P4 | exact P5 | exact P6 | exact P7 | exact P8 | exact P9 | exact P10 | exact P11 | exact P12 | exact P13 | exact P14 | exact P15 | exact P16 | exact P17 | exact P18 | exact P19 | exact P20 | exact P21 | exact P22 | exact P23)) | (apply Part.flat; simp only [List.cons_append, List.nil_append]) | (apply Part.nilc))) ?_)))))
      injection hP with hP
      injection hP with h1 h2
      subst h1
      subst h2
      exact ⟨rfl, rfl⟩
    intro h9_1
    first | rw [if_neg h9_1] at hP | rw [if_pos (Decidable.not_not.1 h9_1)] at hP | skip
    refine SPL_nil ?_
    refine thenP_n ?_
    refine SP_cond_f rfl ?_
    refine SP_skip ?_
    refine thenP_n ?_
    obtain ⟨nb8, rfl⟩ := hN8.shape (by simpa using h9_1)
    have hl1 : l.length < 100000 := Decidable.byContradiction fun q => by rw [if_neg q] at hP; cases hP
    rw [if_pos hl1] at hP
    refine SP_region ?_
    refine SPL_y (y_move rfl) rfl ?_
    refine SPL_y (y_move rfl) rfl ?_
    refine SPL_one rfl (SP1_slice1 el_172 rfl rfl rfl rfl rfl ?_)
    intro b40
    refine SPL_one rfl (SP1_append el_172 (.inl Tryz.underlying172) rfl rfl hA (by first | exact P0 | exact P1 | exact P2 | exact P3 | exact P4 | exact P5 | exact P6 | exact P7 | exact P8 | exact P9 | exact P10 | exact P11 | exact P12 | exact P13 | exact P14 | exact P15 | exact P16 | exact P17 | exact P18 | exact P19 | exact P20 | exact P21 | exact P22 | exact P23) (Src.of (by repeat (first | exact Cells.all _ | exact Cells.amid hpre rfl (by decide) | exact Cells.head rfl | apply Cells.tail)) (by rfl)) (by rfl) (by omega) rfl ?_)
    intro a2 c2 s2 h2
    refine SPL_y (y_assign rfl) rfl ?_
    refine SPL_nil ?_
    refine inBlockP_n ?_
    refine thenP_n ?_
    exact Again.intro ((n, l ++ [t8], s8, a2, l.length + 1, c2, vs ++ [.iface t8.ty (pt nb8)], s2, List.flatten [sm, sn8])) (⟨by simpa using hM.snoc hN8, h2, by simp, hP⟩) (by dsimp only; omega) (by repeat (first | exact Sub.nil _ | refine Sub.cons rfl ?_)) (by repeat (first | exact Part.nil _ | (apply Part.cons; (first | exact P0 | exact P1 | exact P2 | exact P3 | exact P4 | exact P5 | exact P6 | exact P7 | exact P8 | exact P9 | exact P10 | exact P11 | exact P12 | exact P13 | exact P14 | exact P15 | exact P16 | exact P17 | exact P18 | exact P19 | exact P20 | exact P21 | exact P22 | exact P23)) | (apply Part.flat; simp only [List.cons_append, List.nil_append]) | (apply Part.nilc)))

theorem pr_literal (x : PX) (rc : Rec) (hr : RecOk x rc) {n : Nat} {room at_ : Int} {s s' : PS} {t : T} (hP : literalP x.toks rc n room at_ s = some (t, s')) : Spec Tryz.prog 240 [pt x.p, I room, I at_] [x.gs, x.b s, x.st] (Ret (flOk x t s')) := by
  unfold literalP at hP
  obtain ⟨hrm, hP⟩ := grd hP
  refine Spec_enter Tryz.func240 rfl Tryz.ntmps240 rfl ?_
  show SP _ _ _ _ _ [(0, _), (1, _), (2, _)] _
  refine SP_seq ?_
  refine SP_region ?_
  refine SPL_y (y_assign rfl) rfl ?_
  refine SPL_nil ?_
  refine thenP_n ?_
  refine SP_seq ?_
  refine SP_seq ?_
  refine SP_region ?_
  refine SPL_y (y_move rfl) rfl ?_
  obtain ⟨b1, s1, hq1, hP⟩ := bnd2 hP
  refine SPL_one rfl (SP1_call (pr_expect x hq1) Tryz.call242 rfl rfl (by repeat (first | exact Part.nil _ | (apply Part.cons; (first | exact P0 | exact P1 | exact P2 | exact P3 | exact P4 | exact P5 | exact P6 | exact P7 | exact P8 | exact P9 | exact P10 | exact P11 | exact P12 | exact P13 | exact P14 | exact P15 | exact P16 | exact P17 | exact P18 | exact P19 | exact P20 | exact P21 | exact P22 | exact P23)) | (apply Part.flat; simp only [List.cons_append, List.nil_append]) | (apply Part.nilc))) ?_)
  rintro v post H' ⟨rfl, rfl⟩ hH
  rcases b1 with _ | _
  · try simp only [List.cons_append, List.nil_append] at hH
    subst hH
    try dsimp only [cond_true, cond_false, Bool.true_or, Bool.false_or] at hP
    try dsimp only [cond_true, cond_false, Bool.true_or, Bool.false_or] at hQ
    refine SPL_y (y_not_f rfl) rfl ?_
    refine SPL_nil ?_
    refine thenP_n ?_
    refine SP_cond_t rfl ?_
    refine SP_seq ?_
    refine SP_region ?_
    refine SPL_y (y_assign rfl) rfl ?_
    refine SPL_nil ?_
    refine thenP_n ?_
    refine SP_ret ?_
    refine thenP_ret (bodyP_ret (H' := [x.gs, x.b _, x.st]) (Res1 rfl rfl) (by repeat (first | exact Part.nil _ | (apply Part.cons; (first | exact P0 | exact P1 | exact P2 | exact P3 | exact P4 | exact P5 | exact P6 | exact P7 | exact P8 | exact P9 | exact P10 | exact P11 | exact P12 | exact P13 | exact P14 | exact P15 | exact P16 | exact P17 | exact P18 | exact P19 | exact P20 | exact P21 | exact P22 | exact P23)) | (apply Part.flat; simp only [List.cons_append, List.nil_append]) | (apply Part.nilc))) ?_)
    injection hP with hP
    injection hP with h1 h2
    subst h1
    subst h2
    exact .inl ⟨rfl, rfl, rfl⟩
  · try simp only [List.cons_append, List.nil_append] at hH
    subst hH
    try dsimp only [cond_true, cond_false, Bool.true_or, Bool.false_or] at hP
    try dsimp only [cond_true, cond_false, Bool.true_or, Bool.false_or] at hQ
    refine SPL_y (y_not_t rfl) rfl ?_
    refine SPL_nil ?_
    refine thenP_n ?_
    refine SP_cond_f rfl ?_
    refine SP_skip ?_
    refine thenP_n ?_
    refine SP_seq ?_
    refine SP_region ?_
    refine SPL_y (y_move rfl) rfl ?_
    refine SPL_y (y_nil rfl) rfl ?_
    refine SPL_y (y_fa fld_170_4 rfl) rfl ?_
    refine SPL_y (y_load Tryz.isAgg3 rfl (by repeat (first | exact Cell.amid hpre rfl | exact Cell.head rfl | apply Cell.tail))) rfl ?_
    obtain ⟨hfb, hP⟩ := grd hP
    refine SPL_y (y_add rfl rfl (by omega)) rfl ?_
    refine SPL_y (y_nil rfl) rfl ?_
    refine SPL_y (y_fa fld_170_4 rfl) rfl ?_
    refine SPL_one rfl (SP1_store Tryz.sizeOf3 rfl rfl rfl (by first | exact U0 | exact U1 | exact U2 | exact U3 | exact U4 | exact U5 | exact U6 | exact U7 | exact U8 | exact U9 | exact U10 | exact U11 | exact U12 | exact U13 | exact U14 | exact U15 | exact U16 | exact U17 | exact U18 | exact U19 | exact U20 | exact U21 | exact U22 | exact U23) (by rfl) ?_)
    refine SPL_nil ?_
    refine thenP_n ?_
    refine SP_seq ?_
    refine SP_region ?_
    refine SPL_y (y_move rfl) rfl ?_
    refine SPL_y (y_nil rfl) rfl ?_
    refine SPL_y (y_fa fld_170_4 rfl) rfl ?_
    refine SPL_y (y_load Tryz.isAgg3 rfl (by repeat (first | exact Cell.amid hpre rfl | exact Cell.head rfl | apply Cell.tail))) rfl ?_
    refine SPL_y (y_assign rfl) rfl ?_
    refine SPL_nil ?_
    refine thenP_n ?_
    refine SP_seq ?_
    obtain ⟨r5, s5, hq5, hP⟩ := bnd2 hP
    refine SP_region ?_
    refine SPL_y (y_assign rfl) rfl ?_
    refine SPL_nil ?_
    refine thenP_n ?_
    refine SP_seq ?_
    refine SP_block ?_
    refine SP_loop (G := Nat × List T × PS × Option Addr × Nat × Nat × List Value × Seg × Seg) (fun g => g.1) (fun g => [(0, pt x.p), (1, I room), (2, I at_), (7, I (s1.funcs + 1)), (8, .slice g.2.2.2.1 g.2.2.2.2.1 g.2.2.2.2.2.1)]) (fun g => [x.gs, x.b g.2.2.1, x.st, g.2.2.2.2.2.2.2.1, g.2.2.2.2.2.2.2.2]) (fun g => IsM g.2.1 g.2.2.2.2.2.2.1 g.2.2.2.2.2.2.2.2 ∧ Arr 236 1 g.2.2.2.1 g.2.2.2.2.1 g.2.2.2.2.2.1 g.2.2.2.2.2.2.1 g.2.2.2.2.2.2.2.1 ∧ g.2.2.2.2.1 = g.2.1.length ∧ paramsL x.toks g.1 g.2.1 g.2.2.1 = some (r5, s5)) ((n, [], { s1 with funcs := s1.funcs + 1 }, none, 0, 0, [], [], [])) (⟨.nil, Arr.nil _ _, rfl, hq5⟩) (by repeat (first | exact Sub.nil _ | refine Sub.cons rfl ?_)) (by repeat (first | exact Part.nil _ | (apply Part.cons; (first | exact P0 | exact P1 | exact P2 | exact P3 | exact P4 | exact P5 | exact P6 | exact P7 | exact P8 | exact P9 | exact P10 | exact P11 | exact P12 | exact P13 | exact P14 | exact P15 | exact P16 | exact P17 | exact P18 | exact P19 | exact P20 | exact P21 | exact P22 | exact P23)) | (apply Part.flat; simp only [List.cons_append, List.nil_append]) | (apply Part.nilc))) ?_
    rintro ⟨n0, l, s, a, m, c, vs, sa, sm⟩ ⟨hM, hA, hm, hQ⟩
    dsimp only at hM hA hm hQ ⊢
    subst hm
    cases n0 with
    | zero => cases hQ
    | succ n2 =>
    rw [paramsL] at hQ
    refine SP_seq ?_
    refine SP_seq ?_
    refine SP_region ?_
    refine SPL_y (y_move rfl) rfl ?_
    refine SPL_y (y_nil rfl) rfl ?_
    refine SPL_y (y_fa fld_170_2 rfl) rfl ?_
    refine SPL_y (y_fa fld_156_0 rfl) rfl ?_
    refine SPL_y (y_load Tryz.isAgg154 rfl (by repeat (first | exact Cell.amid hpre rfl | exact Cell.head rfl | apply Cell.tail))) rfl ?_
    refine SPL_ifn (y_neq rfl rfl) rfl ?_ ?_
    · intro h6_5
      first | rw [if_neg h6_5] at hP | rw [if_pos (Decidable.not_not.1 h6_5)] at hP | skip
      first | rw [if_neg h6_5] at hQ | rw [if_pos (Decidable.not_not.1 h6_5)] at hQ | skip
      refine SPL_nil ?_
      refine thenP_n ?_
      refine SP_cond_f rfl ?_
      refine SP_exit ?_
      refine thenP_exit ?_
      refine thenP_exit ?_
      refine inBlockP_hit ?_
      refine thenP_n ?_
      refine SP_seq ?_
      injection hQ with hQ
      injection hQ with h1 h2
      subst h1
      subst h2
      dsimp only at hP
      refine SP_region ?_
      refine SPL_y (y_move rfl) rfl ?_
      obtain ⟨s16, hq16, hP⟩ := bnd1 hP
      refine SPL_one rfl (SP1_call (pr_next x hq16) Tryz.call186 rfl rfl (by repeat (first | exact Part.nil _ | (apply Part.cons; (first | exact P0 | exact P1 | exact P2 | exact P3 | exact P4 | exact P5 | exact P6 | exact P7 | exact P8 | exact P9 | exact P10 | exact P11 | exact P12 | exact P13 | exact P14 | exact P15 | exact P16 | exact P17 | exact P18 | exact P19 | exact P20 | exact P21 | exact P22 | exact P23)) | (apply Part.flat; simp only [List.cons_append, List.nil_append]) | (apply Part.nilc))) ?_)
      rintro v post H' ⟨rfl, rfl⟩ hH
      try simp only [List.cons_append, List.nil_append] at hH
      subst hH
      refine SPL_nil ?_
      refine thenP_n ?_
      refine SP_seq ?_
      refine SP_region ?_
      refine SPL_y (y_move rfl) rfl ?_
      refine SPL_y (y_nil rfl) rfl ?_
      refine SPL_y (y_fa fld_170_3 rfl) rfl ?_
      refine SPL_y (y_loads Tryz.isAgg168 Tryz.sizeOf168 rfl rfl (by repeat (first | exact Cells.head (vs := [I s16.alive, I s16.loops]) rfl | apply Cells.tail))) rfl ?_
      refine SPL_one rfl (SP1_alloc Tryz.zeroValue168 rfl rfl ?_)
      intro b10
      refine SPL_one rfl (SP1_storeAll Tryz.sizeOf168 rfl rfl rfl rfl rfl (by first | exact U0 | exact U1 | exact U2 | exact U3 | exact U4 | exact U5 | exact U6 | exact U7 | exact U8 | exact U9 | exact U10 | exact U11 | exact U12 | exact U13 | exact U14 | exact U15 | exact U16 | exact U17 | exact U18 | exact U19 | exact U20 | exact U21 | exact U22 | exact U23) (by rfl) ?_)
      refine SPL_nil ?_
      refine thenP_n ?_
      refine SP_seq ?_
      refine SP_region ?_
      refine SPL_y (y_move rfl) rfl ?_
      refine SPL_y (y_move rfl) rfl ?_
      refine SPL_y (y_len_l Tryz.underlying172 rfl) rfl ?_
      refine SPL_y (y_build B168 rfl rfl (by simp only [fillL, List.foldl_cons, List.foldl_nil, List.set_cons_zero, List.set_cons_succ]; exact rfl)) rfl ?_
      refine SPL_y (y_nil rfl) rfl ?_
      refine SPL_y (y_fa fld_170_3 rfl) rfl ?_
      refine SPL_one rfl (SP1_storesAt Tryz.sizeOf168 rfl rfl rfl rfl rfl (by first | exact U0 | exact U1 | exact U2 | exact U3 | exact U4 | exact U5 | exact U6 | exact U7 | exact U8 | exact U9 | exact U10 | exact U11 | exact U12 | exact U13 | exact U14 | exact U15 | exact U16 | exact U17 | exact U18 | exact U19 | exact U20 | exact U21 | exact U22 | exact U23) (by rfl) ?_)
      refine SPL_nil ?_
      refine thenP_n ?_
      refine SP_seq ?_
      refine SP_region ?_
      refine SPL_y (y_move rfl) rfl ?_
      refine SPL_y (y_move rfl) rfl ?_
      refine SPL_y (y_sub rfl rfl (by omega)) rfl ?_
      obtain ⟨r19, s19, hq19, hP⟩ := bnd2 hP
      refine SPL_one rfl (SP1_call (hr.block _ _ _ _ hq19) Tryz.call69 rfl rfl (by repeat (first | exact Part.nil _ | (apply Part.cons; (first | exact P0 | exact P1 | exact P2 | exact P3 | exact P4 | exact P5 | exact P6 | exact P7 | exact P8 | exact P9 | exact P10 | exact P11 | exact P12 | exact P13 | exact P14 | exact P15 | exact P16 | exact P17 | exact P18 | exact P19 | exact P20 | exact P21 | exact P22 | exact P23)) | (apply Part.flat; simp only [List.cons_append, List.nil_append]) | (apply Part.nilc))) ?_)
      rintro v post H' hL hH
      rcases r19 with _ | l19
      · obtain ⟨rfl, rfl⟩ := hL
        try simp only [List.cons_append, List.nil_append] at hH
        subst hH
        try dsimp only [cond_true, cond_false, Bool.true_or, Bool.false_or] at hP
        try dsimp only [cond_true, cond_false, Bool.true_or, Bool.false_or] at hQ
        refine SPL_y (y_move rfl) rfl ?_
        refine SPL_y (y_ext rfl rfl) rfl ?_
        refine SPL_y (y_ext rfl rfl) rfl ?_
        refine SPL_y (y_assign rfl) rfl ?_
        refine SPL_y (y_assign rfl) rfl ?_
        refine SPL_nil ?_
        refine thenP_n ?_
        refine SP_seq ?_
        refine SP_seq ?_
        refine SP_region ?_
        refine SPL_y (y_move rfl) rfl ?_
        refine SPL_y (y_not_f rfl) rfl ?_
        refine SPL_y (y_move rfl) rfl ?_
        refine SPL_gn rfl rfl rfl rfl ?_
        refine SPL_gn rfl rfl rfl rfl ?_
        refine SPL_gn rfl rfl rfl rfl ?_
        refine SPL_y (y_pick_t rfl rfl) rfl ?_
        refine SPL_nil ?_
        refine thenP_n ?_
        refine SP_cond_t rfl ?_
        refine SP_seq ?_
        refine SP_region ?_
        refine SPL_y (y_assign rfl) rfl ?_
        refine SPL_nil ?_
        refine thenP_n ?_
        refine SP_ret ?_
        refine thenP_ret (bodyP_ret (H' := [x.gs, x.b _, x.st]) (Res1 rfl rfl) (by repeat (first | exact Part.nil _ | (apply Part.cons; (first | exact P0 | exact P1 | exact P2 | exact P3 | exact P4 | exact P5 | exact P6 | exact P7 | exact P8 | exact P9 | exact P10 | exact P11 | exact P12 | exact P13 | exact P14 | exact P15 | exact P16 | exact P17 | exact P18 | exact P19 | exact P20 | exact P21 | exact P22 | exact P23)) | (apply Part.flat; simp only [List.cons_append, List.nil_append]) | (apply Part.nilc))) ?_)
        injection hP with hP
        injection hP with h1 h2
        subst h1
        subst h2
        exact .inl ⟨rfl, rfl, rfl⟩
      · obtain ⟨la19, lm19, lc19, ls19, hL19, rfl, rfl⟩ := hL
        try simp only [List.cons_append, List.nil_append] at hH
        subst hH
        try dsimp only [cond_true, cond_false, Bool.true_or, Bool.false_or] at hP
        try dsimp only [cond_true, cond_false, Bool.true_or, Bool.false_or] at hQ
        refine SPL_y (y_move rfl) rfl ?_
        refine SPL_y (y_ext rfl rfl) rfl ?_
        refine SPL_y (y_ext rfl rfl) rfl ?_
        refine SPL_y (y_assign rfl) rfl ?_
        refine SPL_y (y_assign rfl) rfl ?_
        refine SPL_nil ?_
        refine thenP_n ?_
        refine SP_seq ?_
        refine SP_seq ?_
        refine SP_region ?_
        refine SPL_y (y_move rfl) rfl ?_
        refine SPL_y (y_not_t rfl) rfl ?_
        refine SPL_y (y_move rfl) rfl ?_
        refine SPL_gy rfl rfl ?_
        refine SPL_y (y_move rfl) rfl ?_
        refine SPL_gy rfl rfl ?_
        obtain ⟨b20, s20, hq20, hP⟩ := bnd2 hP
        refine SPL_one rfl (SP1_call (pr_expect x hq20) Tryz.call242 rfl rfl (by repeat (first | exact Part.nil _ | (apply Part.cons; (first | exact P0 | exact P1 | exact P2 | exact P3 | exact P4 | exact P5 | exact P6 | exact P7 | exact P8 | exact P9 | exact P10 | exact P11 | exact P12 | exact P13 | exact P14 | exact P15 | exact P16 | exact P17 | exact P18 | exact P19 | exact P20 | exact P21 | exact P22 | exact P23)) | (apply Part.flat; simp only [List.cons_append, List.nil_append]) | (apply Part.nilc))) ?_)
        rintro v post H' ⟨rfl, rfl⟩ hH
        rcases b20 with _ | _
        · try simp only [List.cons_append, List.nil_append] at hH
          subst hH
          try dsimp only [cond_true, cond_false, Bool.true_or, Bool.false_or] at hP
          try dsimp only [cond_true, cond_false, Bool.true_or, Bool.false_or] at hQ
          refine SPL_gy rfl rfl ?_
          refine SPL_y (y_not_f rfl) rfl ?_
          refine SPL_y (y_pick_f rfl rfl) rfl ?_
          refine SPL_nil ?_
          refine thenP_n ?_
          refine SP_cond_t rfl ?_
          refine SP_seq ?_
          refine SP_region ?_
          refine SPL_y (y_assign rfl) rfl ?_
          refine SPL_nil ?_
          refine thenP_n ?_
          refine SP_ret ?_
          refine thenP_ret (bodyP_ret (H' := [x.gs, x.b _, x.st]) (Res1 rfl rfl) (by repeat (first | exact Part.nil _ | (apply Part.cons; (first | exact P0 | exact P1 | exact P2 | exact P3 | exact P4 | exact P5 | exact P6 | exact P7 | exact P8 | exact P9 | exact P10 | exact P11 | exact P12 | exact P13 | exact P14 | exact P15 | exact P16 | exact P17 | exact P18 | exact P19 | exact P20 | exact P21 | exact P22 | exact P23)) | (apply Part.flat; simp only [List.cons_append, List.nil_append]) | (apply Part.nilc))) ?_)
          injection hP with hP
          injection hP with h1 h2
          subst h1
          subst h2
          exact .inl ⟨rfl, rfl, rfl⟩
        · try simp only [List.cons_append, List.nil_append] at hH
          subst hH
          try dsimp only [cond_true, cond_false, Bool.true_or, Bool.false_or] at hP
          try dsimp only [cond_true, cond_false, Bool.true_or, Bool.false_or] at hQ
          refine SPL_gy rfl rfl ?_
          refine SPL_y (y_not_t rfl) rfl ?_
          refine SPL_y (y_pick_f rfl rfl) rfl ?_
          refine SPL_nil ?_
          refine thenP_n ?_
          refine SP_cond_f rfl ?_
          refine SP_skip ?_
          refine thenP_n ?_
          refine SP_seq ?_
          refine SP_region ?_
          refine SPL_y (y_move rfl) rfl ?_
          refine SPL_y (y_loads Tryz.isAgg168 Tryz.sizeOf168 rfl rfl (by repeat (first | exact Cells.all _ | exact Cells.amid hpre rfl (by decide) | exact Cells.head rfl | apply Cells.tail))) rfl ?_
          refine SPL_y (y_nil rfl) rfl ?_
          refine SPL_y (y_fa fld_170_3 rfl) rfl ?_
          refine SPL_one rfl (SP1_storesAt Tryz.sizeOf168 rfl rfl rfl rfl rfl (by first | exact U0 | exact U1 | exact U2 | exact U3 | exact U4 | exact U5 | exact U6 | exact U7 | exact U8 | exact U9 | exact U10 | exact U11 | exact U12 | exact U13 | exact U14 | exact U15 | exact U16 | exact U17 | exact U18 | exact U19 | exact U20 | exact U21 | exact U22 | exact U23) (by rfl) ?_)
          refine SPL_nil ?_
          refine thenP_n ?_
          refine SP_seq ?_
          refine SP_region ?_
          refine SPL_y (y_move rfl) rfl ?_
          refine SPL_y (y_move rfl) rfl ?_
          refine SPL_y (y_move rfl) rfl ?_
          refine SPL_y (y_move rfl) rfl ?_
          refine SPL_y (y_build B397 rfl rfl (by simp only [fillL, List.foldl_cons, List.foldl_nil, List.set_cons_zero, List.set_cons_succ]; exact rfl)) rfl ?_
          refine SPL_one rfl (SP1_box rfl rfl rfl ?_)
          intro b90
          refine SPL_y (y_assign rfl) rfl ?_
          refine SPL_nil ?_
          refine thenP_n ?_
          refine SP_ret ?_
          refine bodyP_ret (H' := [x.gs, x.b { s20 with alive := s16.alive, loops := s16.loops }, x.st, List.flatten [blk b90 397 [I at_, I (s1.funcs + 1), .slice a l.length c, .slice la19 lm19 lc19], List.flatten [sa, sm], ls19]]) (Res1 rfl rfl) (by repeat (first | exact Part.nil _ | (apply Part.cons; (first | exact P0 | exact P1 | exact P2 | exact P3 | exact P4 | exact P5 | exact P6 | exact P7 | exact P8 | exact P9 | exact P10 | exact P11 | exact P12 | exact P13 | exact P14 | exact P15 | exact P16 | exact P17 | exact P18 | exact P19 | exact P20 | exact P21 | exact P22 | exact P23)) | (apply Part.flat; simp only [List.cons_append, List.nil_append]) | (apply Part.nilc))) ?_
          injection hP with hP
          injection hP with h1 h2
          subst h1
          subst h2
          exact .inr ⟨rfl, _, _, rfl, .func (IsL.mk hM hA) hL19, rfl⟩
    intro h6_5
    first | rw [if_pos h6_5] at hP | rw [if_neg h6_5] at hP | skip
    first | rw [if_pos h6_5] at hQ | rw [if_neg h6_5] at hQ | skip
    refine SPL_nil ?_
    refine thenP_n ?_
    refine SP_cond_t rfl ?_
    refine SP_skip ?_
    refine thenP_n ?_
    refine SP_block ?_
    refine SP_seq ?_
    refine SP_seq ?_
    refine SP_region ?_
    refine SPL_y (y_move rfl) rfl ?_
    refine SPL_y (y_len_l Tryz.underlying172 rfl) rfl ?_
    refine SPL_ifn (y_gtr rfl rfl) rfl ?_ ?_
    · intro h7_2
      first | rw [if_neg h7_2] at hP | rw [if_pos (Decidable.not_not.1 h7_2)] at hP | skip
      first | rw [if_neg h7_2] at hQ | rw [if_pos (Decidable.not_not.1 h7_2)] at hQ | skip
      have hemp : l.isEmpty = true := by cases l with
        | nil => rfl
        | cons => exact absurd (by simp) h7_2
      refine SPL_y (y_move rfl) rfl ?_
      refine SPL_gn rfl rfl rfl rfl ?_
      refine SPL_gn rfl rfl rfl rfl ?_
      refine SPL_gn rfl rfl rfl rfl ?_
      refine SPL_y (y_pick_f rfl rfl) rfl ?_
      refine SPL_nil ?_
      refine thenP_n ?_
      refine SP_cond_f rfl ?_
      refine SP_skip ?_
      refine thenP_n ?_
      refine SP_seq ?_
      refine SP_seq ?_
      obtain ⟨b7, s7, hq7, hQ⟩ := bnd2 hQ
      rw [hemp] at hq7
      dsimp only [commaP, cond_true] at hq7
      injection hq7 with hq7
      injection hq7 with h1 h2
      subst h1
      subst h2
      dsimp only [cond_true] at hQ
      refine SP_region ?_
      refine SPL_y (y_move rfl) rfl ?_
      refine SPL_y (y_len_l Tryz.underlying172 rfl) rfl ?_
      refine SPL_if (y_eql rfl rfl) rfl ?_ ?_
      · intro h9_2
        first | rw [if_pos h9_2] at hP | rw [if_neg h9_2] at hP | skip
        first | rw [if_pos h9_2] at hQ | rw [if_neg h9_2] at hQ | skip
        refine SPL_nil ?_
        refine thenP_n ?_
        refine SP_cond_t rfl ?_
        refine SP_seq ?_
        injection hQ with hQ
        injection hQ with h1 h2
        subst h1
        subst h2
        refine SP_region ?_
        refine SPL_y (y_move rfl) rfl ?_
        refine SPL_one rfl (SP1_call (pr_fail x (19) _) Tryz.call70 rfl rfl (by repeat (first | exact Part.nil _ | (apply Part.cons; (first | exact P0 | exact P1 | exact P2 | exact P3 | exact P4 | exact P5 | exact P6 | exact P7 | exact P8 | exact P9 | exact P10 | exact P11 | exact P12 | exact P13 | exact P14 | exact P15 | exact P16 | exact P17 | exact P18 | exact P19 | exact P20 | exact P21 | exact P22 | exact P23)) | (apply Part.flat; simp only [List.cons_append, List.nil_append]) | (apply Part.nilc))) ?_)
        rintro v post H' ⟨rfl, rfl⟩ hH
        try simp only [List.cons_append, List.nil_append] at hH
        subst hH
        refine SPL_nil ?_
        refine thenP_n ?_
        refine SP_seq ?_
        refine SP_region ?_
        refine SPL_y (y_assign rfl) rfl ?_
        refine SPL_nil ?_
        refine thenP_n ?_
        refine SP_ret ?_
        refine thenP_ret (inBlockP_ret (thenP_ret (inBlockP_ret (thenP_ret (bodyP_ret (H' := [x.gs, x.b _, x.st]) (Res1 rfl rfl) (by repeat (first | exact Part.nil _ | (apply Part.cons; (first | exact P0 | exact P1 | exact P2 | exact P3 | exact P4 | exact P5 | exact P6 | exact P7 | exact P8 | exact P9 | exact P10 | exact P11 | exact P12 | exact P13 | exact P14 | exact P15 | exact P16 | exact P17 | exact P18 | exact P19 | exact P20 | exact P21 | exact P22 | exact P23)) | (apply Part.flat; simp only [List.cons_append, List.nil_append]) | (apply Part.nilc))) ?_)))))
        injection hP with hP
        injection hP with h1 h2
        subst h1
        subst h2
        exact .inl ⟨rfl, rfl, rfl⟩
      intro h9_2
      first | rw [if_neg h9_2] at hP | rw [if_pos (Decidable.not_not.1 h9_2)] at hP | skip
      first | rw [if_neg h9_2] at hQ | rw [if_pos (Decidable.not_not.1 h9_2)] at hQ | skip
      refine SPL_nil ?_
      refine thenP_n ?_
      refine SP_cond_f rfl ?_
      refine SP_skip ?_
      refine thenP_n ?_
      refine SP_seq ?_
      refine SP_region ?_
      refine SPL_y (y_move rfl) rfl ?_
      obtain ⟨r12, s12, hq12, hQ⟩ := bnd2 hQ
      refine SPL_one rfl (SP1_call (pr_name x (by omega) hq12) Tryz.call239 rfl rfl (by repeat (first | exact Part.nil _ | (apply Part.cons; (first | exact P0 | exact P1 | exact P2 | exact P3 | exact P4 | exact P5 | exact P6 | exact P7 | exact P8 | exact P9 | exact P10 | exact P11 | exact P12 | exact P13 | exact P14 | exact P15 | exact P16 | exact P17 | exact P18 | exact P19 | exact P20 | exact P21 | exact P22 | exact P23)) | (apply Part.flat; simp only [List.cons_append, List.nil_append]) | (apply Part.nilc))) ?_)
      rintro v post H' hL hH
      rcases r12 with _ | ⟨na12, nt12⟩
      · obtain ⟨rfl, rfl⟩ := hL
        try simp only [List.cons_append, List.nil_append] at hH
        subst hH
        try dsimp only [cond_true, cond_false, Bool.true_or, Bool.false_or] at hP
        try dsimp only [cond_true, cond_false, Bool.true_or, Bool.false_or] at hQ
        refine SPL_y (y_assign rfl) rfl ?_
        refine SPL_nil ?_
        refine thenP_n ?_
        refine SP_seq ?_
        refine SP_seq ?_
        refine SP_region ?_
        refine SPL_y (y_move rfl) rfl ?_
        refine SPL_y (y_peql_F Tryz.underlying307 rfl rfl) rfl ?_
        refine SPL_nil ?_
        refine thenP_n ?_
        refine SP_cond_t rfl ?_
        refine SP_seq ?_
        injection hQ with hQ
        injection hQ with h1 h2
        subst h1
        subst h2
        refine SP_region ?_
        refine SPL_y (y_assign rfl) rfl ?_
        refine SPL_nil ?_
        refine thenP_n ?_
        refine SP_ret ?_
        refine thenP_ret (inBlockP_ret (thenP_ret (inBlockP_ret (thenP_ret (bodyP_ret (H' := [x.gs, x.b _, x.st]) (Res1 rfl rfl) (by repeat (first | exact Part.nil _ | (apply Part.cons; (first | exact P0 | exact P1 | exact P2 | exact P3 | exact P4 | exact P5 | exact P6 | exact P7 | exact P8 | exact P9 | exact P10 | exact P11 | exact P12 | exact P13 | exact P14 | exact P15 | exact P16 | exact P17 | exact P18 | exact P19 | exact P20 | exact P21 | exact P22 | exact P23)) | (apply Part.flat; simp only [List.cons_append, List.nil_append]) | (apply Part.nilc))) ?_)))))
        injection hP with hP
        injection hP with h1 h2
        subst h1
        subst h2
        exact .inl ⟨rfl, rfl, rfl⟩
      · obtain ⟨nb12, rfl, rfl⟩ := hL
        try simp only [List.cons_append, List.nil_append] at hH
        subst hH
        try dsimp only [cond_true, cond_false, Bool.true_or, Bool.false_or] at hP
        try dsimp only [cond_true, cond_false, Bool.true_or, Bool.false_or] at hQ
        refine SPL_y (y_assign rfl) rfl ?_
        refine SPL_nil ?_
        refine thenP_n ?_
        refine SP_seq ?_
        refine SP_seq ?_
        refine SP_region ?_
        refine SPL_y (y_move rfl) rfl ?_
        refine SPL_y (y_peql_T Tryz.underlying307 rfl rfl) rfl ?_
        refine SPL_nil ?_
        refine thenP_n ?_
        refine SP_cond_f rfl ?_
        refine SP_skip ?_
        refine thenP_n ?_
        have hl1 : l.length < 100000 := Decidable.byContradiction fun q => by rw [if_neg q] at hQ; cases hQ
        rw [if_pos hl1] at hQ
        refine SP_region ?_
        refine SPL_y (y_move rfl) rfl ?_
        refine SPL_y (y_move rfl) rfl ?_
        refine SPL_y (y_mki Tryz.underlying307 rfl rfl) rfl ?_
        refine SPL_one rfl (SP1_slice1 el_172 rfl rfl rfl rfl rfl ?_)
        intro b53
        refine SPL_one rfl (SP1_append el_172 (.inl Tryz.underlying172) rfl rfl hA (by first | exact P0 | exact P1 | exact P2 | exact P3 | exact P4 | exact P5 | exact P6 | exact P7 | exact P8 | exact P9 | exact P10 | exact P11 | exact P12 | exact P13 | exact P14 | exact P15 | exact P16 | exact P17 | exact P18 | exact P19 | exact P20 | exact P21 | exact P22 | exact P23) (Src.of (by repeat (first | exact Cells.all _ | exact Cells.amid hpre rfl (by decide) | exact Cells.head rfl | apply Cells.tail)) (by rfl)) (by rfl) (by omega) rfl ?_)
        intro a2 c2 s2 h2
        refine SPL_y (y_assign rfl) rfl ?_
        refine SPL_nil ?_
        refine inBlockP_n ?_
        refine thenP_n ?_
        exact Again.intro ((n2, l ++ [.name na12 nt12], s12, a2, l.length + 1, c2, vs ++ [.iface 307 (pt nb12)], s2, List.flatten [sm, blk nb12 358 [I na12, S nt12]])) (⟨by simpa using hM.snoc .name, h2, by simp, hQ⟩) (by dsimp only; omega) (by repeat (first | exact Sub.nil _ | refine Sub.cons rfl ?_)) (by repeat (first | exact Part.nil _ | (apply Part.cons; (first | exact P0 | exact P1 | exact P2 | exact P3 | exact P4 | exact P5 | exact P6 | exact P7 | exact P8 | exact P9 | exact P10 | exact P11 | exact P12 | exact P13 | exact P14 | exact P15 | exact P16 | exact P17 | exact P18 | exact P19 | exact P20 | exact P21 | exact P22 | exact P23)) | (apply Part.flat; simp only [List.cons_append, List.nil_append]) | (apply Part.nilc)))
    intro h7_2
    first | rw [if_pos h7_2] at hP | rw [if_neg h7_2] at hP | skip
    first | rw [if_pos h7_2] at hQ | rw [if_neg h7_2] at hQ | skip
    have hemp : l.isEmpty = false := by cases l with
      | nil => exact absurd h7_2 (by simp)
      | cons => rfl
    refine SPL_y (y_move rfl) rfl ?_
    refine SPL_gy rfl rfl ?_
    refine SPL_y (y_move rfl) rfl ?_
    refine SPL_gy rfl rfl ?_
    obtain ⟨b7, s7, hq7, hQ⟩ := bnd2 hQ
    rw [hemp] at hq7
    dsimp only [commaP, cond_false] at hq7
    refine SPL_one rfl (SP1_call (pr_expect x hq7) Tryz.call242 rfl rfl (by repeat (first | exact Part.nil _ | (apply Part.cons; (first | exact P0 | exact P1 | exact P2 | exact P3 | exact P4 | exact P5 | exact P6 | exact P7 | exact P8 | exact P9 | exact P10 | exact P11 | exact P12 | exact P13 | exact P14 | exact P15 | exact P16 | exact P17 | exact P18 | exact P19 | exact P20 | exact P21 | exact P22 | exact P23)) | (apply Part.flat; simp only [List.cons_append, List.nil_append]) | (apply Part.nilc))) ?_)
    rintro v post H' ⟨rfl, rfl⟩ hH
    rcases b7 with _ | _
    · try simp only [List.cons_append, List.nil_append] at hH
      subst hH
      try dsimp only [cond_true, cond_false, Bool.true_or, Bool.false_or] at hP
      try dsimp only [cond_true, cond_false, Bool.true_or, Bool.false_or] at hQ
      refine SPL_gy rfl rfl ?_
      refine SPL_y (y_not_f rfl) rfl ?_
      refine SPL_y (y_pick_t rfl rfl) rfl ?_
      refine SPL_nil ?_
      refine thenP_n ?_
      refine SP_cond_t rfl ?_
      refine SP_seq ?_
      injection hQ with hQ
      injection hQ with h1 h2
      subst h1
      subst h2
      refine SP_region ?_
      refine SPL_y (y_assign rfl) rfl ?_
      refine SPL_nil ?_
      refine thenP_n ?_
      refine SP_ret ?_
      refine thenP_ret (inBlockP_ret (thenP_ret (inBlockP_ret (thenP_ret (bodyP_ret (H' := [x.gs, x.b _, x.st]) (Res1 rfl rfl) (by repeat (first | exact Part.nil _ | (apply Part.cons; (first | exact P0 | exact P1 | exact P2 | exact P3 | exact P4 | exact P5 | exact P6 | exact P7 | exact P8 | exact P9 | exact P10 | exact P11 | exact P12 | exact P13 | exact P14 | exact P15 | exact P16 | exact P17 | exact P18 | exact P19 | exact P20 | exact P21 | exact P22 | exact P23)) | (apply Part.flat; simp only [List.cons_append, List.nil_append]) | (apply Part.nilc))) ?_)))))
      injection hP with hP
      injection hP with h1 h2
      subst h1
      subst h2
      exact .inl ⟨rfl, rfl, rfl⟩
    · try simp only [List.cons_append, List.nil_append] at hH
      subst hH
      try dsimp only [cond_true, cond_false, Bool.true_or, Bool.false_or] at hP
      try dsimp only [cond_true, cond_false, Bool.true_or, Bool.false_or] at hQ
      refine SPL_gy rfl rfl ?_
      refine SPL_y (y_not_t rfl) rfl ?_
      refine SPL_y (y_pick_t rfl rfl) rfl ?_
      refine SPL_nil ?_
      refine thenP_n ?_
      refine SP_cond_f rfl ?_
      refine SP_skip ?_
      refine thenP_n ?_
      refine SP_seq ?_
      refine SP_seq ?_
      refine SP_region ?_
      refine SPL_y (y_move rfl) rfl ?_
      refine SPL_y (y_len_l Tryz.underlying172 rfl) rfl ?_
      refine SPL_if (y_eql rfl rfl) rfl ?_ ?_
      · intro h9_2
        first | rw [if_pos h9_2] at hP | rw [if_neg h9_2] at hP | skip
        first | rw [if_pos h9_2] at hQ | rw [if_neg h9_2] at hQ | skip
        refine SPL_nil ?_
        refine thenP_n ?_
        refine SP_cond_t rfl ?_
        refine SP_seq ?_
        injection hQ with hQ
        injection hQ with h1 h2
        subst h1
        subst h2
        refine SP_region ?_
        refine SPL_y (y_move rfl) rfl ?_
        refine SPL_one rfl (SP1_call (pr_fail x (19) _) Tryz.call70 rfl rfl (by repeat (first | exact Part.nil _ | (apply Part.cons; (first | exact P0 | exact P1 | exact P2 | exact P3 | exact P4 | exact P5 | exact P6 | exact P7 | exact P8 | exact P9 | exact P10 | exact P11 | exact P12 | exact P13 | exact P14 | exact P15 | exact P16 | exact P17 | exact P18 | exact P19 | exact P20 | exact P21 | exact P22 | exact P23)) | (apply Part.flat; simp only [List.cons_append, List.nil_append]) | (apply Part.nilc))) ?_)
        rintro v post H' ⟨rfl, rfl⟩ hH
        try simp only [List.cons_append, List.nil_append] at hH
        subst hH
        refine SPL_nil ?_
        refine thenP_n ?_
        refine SP_seq ?_
        refine SP_region ?_
        refine SPL_y (y_assign rfl) rfl ?_
        refine SPL_nil ?_
        refine thenP_n ?_
        refine SP_ret ?_
        refine thenP_ret (inBlockP_ret (thenP_ret (inBlockP_ret (thenP_ret (bodyP_ret (H' := [x.gs, x.b _, x.st]) (Res1 rfl rfl) (by repeat (first | exact Part.nil _ | (apply Part.cons; (first | exact P0 | exact P1 | exact P2 | exact P3 | exact P4 | exact P5 | exact P6 | exact P7 | exact P8 | exact P9 | exact P10 | exact P11 | exact P12 | exact P13 | exact P14 | exact P15 | exact P16 | exact P17 | exact P18 | exact P19 | exact P20 | exact P21 | exact P22 | exact P23)) | (apply Part.flat; simp only [List.cons_append, List.nil_append]) | (apply Part.nilc))) ?_)))))
        injection hP with hP
        injection hP with h1 h2
        subst h1
        subst h2
        exact .inl ⟨rfl, rfl, rfl⟩
      intro h9_2
      first | rw [if_neg h9_2] at hP | rw [if_pos (Decidable.not_not.1 h9_2)] at hP | skip
      first | rw [if_neg h9_2] at hQ | rw [if_pos (Decidable.not_not.1 h9_2)] at hQ | skip
      refine SPL_nil ?_
      refine thenP_n ?_
      refine SP_cond_f rfl ?_
      refine SP_skip ?_
      refine thenP_n ?_
      refine SP_seq ?_
      refine SP_region ?_
      refine SPL_y (y_move rfl) rfl ?_
      obtain ⟨r12, s12, hq12, hQ⟩ := bnd2 hQ
      refine SPL_one rfl (SP1_call (pr_name x (by omega) hq12) Tryz.call239 rfl rfl (by repeat (first | exact Part.nil _ | (apply Part.cons; (first | exact P0 | exact P1 | exact P2 | exact P3 | exact P4 | exact P5 | exact P6 | exact P7 | exact P8 | exact P9 | exact P10 | exact P11 | exact P12 | exact P13 | exact P14 | exact P15 | exact P16 | exact P17 | exact P18 | exact P19 | exact P20 | exact P21 | exact P22 | exact P23)) | (apply Part.flat; simp only [List.cons_append, List.nil_append]) | (apply Part.nilc))) ?_)
      rintro v post H' hL hH
      rcases r12 with _ | ⟨na12, nt12⟩
      · obtain ⟨rfl, rfl⟩ := hL
        try simp only [List.cons_append, List.nil_append] at hH
        subst hH
        try dsimp only [cond_true, cond_false, Bool.true_or, Bool.false_or] at hP
        try dsimp only [cond_true, cond_false, Bool.true_or, Bool.false_or] at hQ
        refine SPL_y (y_assign rfl) rfl ?_
        refine SPL_nil ?_
        refine thenP_n ?_
        refine SP_seq ?_
        refine SP_seq ?_
        refine SP_region ?_
        refine SPL_y (y_move rfl) rfl ?_
        refine SPL_y (y_peql_F Tryz.underlying307 rfl rfl) rfl ?_
        refine SPL_nil ?_
        refine thenP_n ?_
        refine SP_cond_t rfl ?_
        refine SP_seq ?_
        injection hQ with hQ
        injection hQ with h1 h2
        subst h1
        subst h2
        refine SP_region ?_
        refine SPL_y (y_assign rfl) rfl ?_
        refine SPL_nil ?_
        refine thenP_n ?_
        refine SP_ret ?_
        refine thenP_ret (inBlockP_ret (thenP_ret (inBlockP_ret (thenP_ret (bodyP_ret (H' := [x.gs, x.b _, x.st]) (Res1 rfl rfl) (by repeat (first | exact Part.nil _ | (apply Part.cons; (first | exact P0 | exact P1 | exact P2 | exact P3 | exact P4 | exact P5 | exact P6 | exact P7 | exact P8 | exact P9 | exact P10 | exact P11 | exact P12 | exact P13 | exact P14 | exact P15 | exact P16 | exact P17 | exact P18 | exact P19 | exact P20 | exact P21 | exact P22 | exact P23)) | (apply Part.flat; simp only [List.cons_append, List.nil_append]) | (apply Part.nilc))) ?_)))))
        injection hP with hP
        injection hP with h1 h2
        subst h1
        subst h2
        exact .inl ⟨rfl, rfl, rfl⟩
      · obtain ⟨nb12, rfl, rfl⟩ := hL
        try simp only [List.cons_append, List.nil_append] at hH
        subst hH
        try dsimp only [cond_true, cond_false, Bool.true_or, Bool.false_or] at hP
        try dsimp only [cond_true, cond_false, Bool.true_or, Bool.false_or] at hQ
        refine SPL_y (y_assign rfl) rfl ?_
        refine SPL_nil ?_
        refine thenP_n ?_
        refine SP_seq ?_
        refine SP_seq ?_
        refine SP_region ?_
        refine SPL_y (y_move rfl) rfl ?_
        refine SPL_y (y_peql_T Tryz.underlying307 rfl rfl) rfl ?_
        refine SPL_nil ?_
        refine thenP_n ?_
        refine SP_cond_f rfl ?_
        refine SP_skip ?_
        refine thenP_n ?_
        have hl1 : l.length < 100000 := Decidable.byContradiction fun q => by rw [if_neg q] at hQ; cases hQ
        rw [if_pos hl1] at hQ
        refine SP_region ?_
        refine SPL_y (y_move rfl) rfl ?_
        refine SPL_y (y_move rfl) rfl ?_
        refine SPL_y (y_mki Tryz.underlying307 rfl rfl) rfl ?_
        refine SPL_one rfl (SP1_slice1 el_172 rfl rfl rfl rfl rfl ?_)
        intro b53
        refine SPL_one rfl (SP1_append el_172 (.inl Tryz.underlying172) rfl rfl hA (by first | exact P0 | exact P1 | exact P2 | exact P3 | exact P4 | exact P5 | exact P6 | exact P7 | exact P8 | exact P9 | exact P10 | exact P11 | exact P12 | exact P13 | exact P14 | exact P15 | exact P16 | exact P17 | exact P18 | exact P19 | exact P20 | exact P21 | exact P22 | exact P23) (Src.of (by repeat (first | exact Cells.all _ | exact Cells.amid hpre rfl (by decide) | exact Cells.head rfl | apply Cells.tail)) (by rfl)) (by rfl) (by omega) rfl ?_)
        intro a2 c2 s2 h2
        refine SPL_y (y_assign rfl) rfl ?_
        refine SPL_nil ?_
        refine inBlockP_n ?_
        refine thenP_n ?_
        exact Again.intro ((n2, l ++ [.name na12 nt12], s12, a2, l.length + 1, c2, vs ++ [.iface 307 (pt nb12)], s2, List.flatten [sm, blk nb12 358 [I na12, S nt12]])) (⟨by simpa using hM.snoc .name, h2, by simp, hQ⟩) (by dsimp only; omega) (by repeat (first | exact Sub.nil _ | refine Sub.cons rfl ?_)) (by repeat (first | exact Part.nil _ | (apply Part.cons; (first | exact P0 | exact P1 | exact P2 | exact P3 | exact P4 | exact P5 | exact P6 | exact P7 | exact P8 | exact P9 | exact P10 | exact P11 | exact P12 | exact P13 | exact P14 | exact P15 | exact P16 | exact P17 | exact P18 | exact P19 | exact P20 | exact P21 | exact P22 | exact P23)) | (apply Part.flat; simp only [List.cons_append, List.nil_append]) | (apply Part.nilc)))

end Go.Sl
