/- Walks: package vm, decode (made by program out of short notes) -/
import Derived.Test.Qxb6500573aGreatDoorWVmZ
import Derived.Test.Qxb6500573aGreatDoorSlSb
namespace Go.Sl
open Go Go.Wl Go.Proofs
set_option maxRecDepth 100000
set_option linter.unusedVariables false
set_option linter.unusedSimpArgs false
theorem dscL_rd {cap : Nat} : ∀ (n : Nat) {r r' : Rd} {l l' : List (Int × Int)}, rdOk cap r → dscL n r l = some (l', r') → rdOk cap r' ∧ r'.l = r.l
  | 0, r, r', l, l', hr, h => by
    unfold dscL at h
    injection h with h
    injection h with _ h
    subst h; exact ⟨hr, rfl⟩
  | n + 1, r, r', l, l', hr, h => by
    unfold dscL at h
    split at h
    · obtain ⟨r1, h1, h⟩ := bnd1 h
      split at h
      · obtain ⟨a1, a2⟩ := dscL_rd n (hr.nx h1) h
        exact ⟨a1, a2.trans (nx_l h1)⟩
      · cases h
    · cases h
theorem konL_rd {cap : Nat} : ∀ (n : Nat) {r r' : Rd} {l l' : List V}, rdOk cap r → konL n r l = some (l', r') → rdOk cap r' ∧ r'.l = r.l
  | 0, r, r', l, l', hr, h => by
    unfold konL at h
    injection h with h
    injection h with _ h
    subst h; exact ⟨hr, rfl⟩
  | n + 1, r, r', l, l', hr, h => by
    unfold konL at h
    split at h
    · obtain ⟨v, r1, h1, h⟩ := bnd2 h
      obtain ⟨a1, a2⟩ := konL_rd n (konM_rd hr h1).1 h
      exact ⟨a1, a2.trans (konM_rd hr h1).2.2⟩
    · cases h
theorem insL_rd {cap : Nat} : ∀ (n : Nat) {r r' : Rd} {l l' : List In}, rdOk cap r → r.bad = false → insL n r l = some (l', r') → rdOk cap r' ∧ r'.bad = false ∧ r'.l = r.l
  | 0, r, r', l, l', hr, hb, h => by
    unfold insL at h
    injection h with h
    injection h with _ h
    subst h; exact ⟨hr, hb, rfl⟩
  | n + 1, r, r', l, l', hr, hb, h => by
    unfold insL at h
    split at h
    · obtain ⟨r1, h1, h⟩ := bnd1 h
      obtain ⟨a1, a2, a3⟩ := insL_rd n (hr.nx h1) (nx_bad h1) h
      exact ⟨a1, a2, a3.trans (nx_l h1)⟩
    · cases h
theorem prtM_rd {cap : Nat} {r r' : Rd} {g g' : Pg} (hr : rdOk cap r) (h : prtM r g = some (g', r')) : rdOk cap r' ∧ r'.bad = false ∧ r'.l = r.l := by
  unfold prtM at h
  obtain ⟨r1, h1, h⟩ := bnd1 h
  split at h
  · obtain ⟨ds, r2, h2, h⟩ := bnd2 h
    obtain ⟨r3, h3, h⟩ := bnd1 h
    obtain ⟨ks, r4, h4, h⟩ := bnd2 h
    obtain ⟨r5, h5, h⟩ := bnd1 h
    obtain ⟨cs, r6, h6, h⟩ := bnd2 h
    split at h
    · injection h with h
      injection h with _ h
      subst h
      have a2 := dscL_rd _ (hr.nx h1) h2
      have a4 := konL_rd _ (a2.1.nx h3) h4
      have a6 := insL_rd _ (a4.1.nx h5) (nx_bad h5) h6
      exact ⟨a6.1, a6.2.1, by rw [a6.2.2, nx_l h5, a4.2, nx_l h3, a2.2, nx_l h1]⟩
    · cases h
  · cases h
theorem okPg_at {g : Pg} (h : okPg g = true) : ∃ p, getI g.protos 0 = some p ∧ p.nparams = 0 ∧ p.nup = 0 := by
  unfold okPg at h
  cases hp : g.protos with
  | nil => rw [hp] at h; cases h
  | cons p ps =>
    rw [hp] at h
    dsimp only at h
    rw [Bool.and_eq_true, decide_eq_true_eq, decide_eq_true_eq] at h
    exact ⟨p, rfl, h.1, h.2⟩
theorem rd_i {rb lb cap : Nat} {sp : List Value × (Nat × Nat)} {r : Rd} {H : Hp} : Cell (rdSeg rb lb cap sp r :: H) rb (0 + 1) (I r.i) := seg_cell (s := rdB rb lb cap r) (by simp) (Cell.head (H := []) rfl)
theorem rd_sl {rb lb cap : Nat} {sp : List Value × (Nat × Nat)} {r : Rd} {H : Hp} : Cell (rdSeg rb lb cap sp r :: H) rb (0 + 0) (.slice (some ⟨lb, 0, none⟩) r.l.length cap) := seg_cell (s := rdB rb lb cap r) (by simp) (Cell.head (H := []) rfl)
theorem vm_decode (b : VB) (ph : PH) (hh : List TH) {m : VM} {l : List UInt8} {g : Pg} (hP : decM l m.pg = some g) (seg : Seg) (hM : isVM b ph hh m seg) : Spec Tryz.prog 78 [pt b.vb, S l] [seg] (Ret fun v H => v = .bool true ∧ ∃ ph' seg', isVM b ph' hh { m with pg := g } seg' ∧ H = [seg']) := by
  unfold decM at hP
  have hll : l.length ≤ 1000000 := Decidable.byContradiction fun q => by rw [if_neg q] at hP; cases hP
  rw [if_pos hll] at hP
  refine Spec_enter Tryz.func78 rfl Tryz.ntmps78 rfl ?_
  show SP _ _ _ _ _ [(0, _), (1, _)] _
  refine SP_seq ?_
  refine SP_region ?_
  refine SPL_y (y_assign rfl) rfl ?_
  refine SPL_nil ?_
  refine thenP_n ?_
  refine SP_seq ?_
  refine SP_region ?_
  refine SPL_y (y_move rfl) rfl ?_
  refine SPL_one rfl (SP1_s2b Tryz.underlying9 Tryz.underlying67 Tryz.underlying5 rfl rfl ?_)
  intro lb cap sp hcap
  refine SPL_y (y_build B248 rfl rfl (by simp only [fillL, List.foldl_cons, List.foldl_nil, List.set_cons_zero, List.set_cons_succ]; exact rfl)) rfl ?_
  refine SPL_one rfl (SP1_box rfl rfl rfl ?_)
  intro b11
  refine SPL_y (y_assign rfl) rfl ?_
  refine SPL_nil ?_
  refine thenP_n ?_
  refine SP_seq ?_
  obtain ⟨rb, hrb⟩ : ∃ rb, rb = b11 := ⟨_, rfl⟩
  subst hrb
  refine SP_part (H' := [List.flatten [blk rb 248 [.slice (some ⟨lb, 0, none⟩) l.length cap, I 0, .bool false], blkF lb 5 (bytesV l ++ sp.1) sp.2], seg]) (by repeat (first | exact Part.nil _ | (apply Part.cons; with_reducible (first | exact P0 | exact P1 | exact P2 | exact P3 | exact P4 | exact P5 | exact P6 | exact P7 | exact P8 | exact P9 | exact P10 | exact P11 | exact P12 | exact P13 | exact P14 | exact P15 | exact P16 | exact P17 | exact P18 | exact P19 | exact P20 | exact P21 | exact P22 | exact P23)) | (apply Part.flat; simp only [List.cons_append, List.nil_append]) | (apply Part.cons; (first | exact P0 | exact P1 | exact P2 | exact P3 | exact P4 | exact P5 | exact P6 | exact P7 | exact P8 | exact P9 | exact P10 | exact P11 | exact P12 | exact P13 | exact P14 | exact P15 | exact P16 | exact P17 | exact P18 | exact P19 | exact P20 | exact P21 | exact P22 | exact P23)) | (apply Part.nilc))) ?_
  show SP _ _ _ _ _ _ [rdSeg rb lb cap sp ⟨l, 0, false⟩, seg]
  refine SP_region ?_
  refine SPL_y (y_move rfl) rfl ?_
  obtain ⟨r1, hq2, hP⟩ := bnd1 hP
  have hr : rdOk cap ⟨l, 0, false⟩ := ⟨Nat.zero_le _, hcap, hll⟩
  refine SPL_one rfl (SP1_call (rd_u8 rb lb cap sp ⟨l, 0, false⟩ hr) Tryz.call131 rfl rfl (by repeat (first | exact Part.nil _ | (apply Part.cons; with_reducible (first | exact P0 | exact P1 | exact P2 | exact P3 | exact P4 | exact P5 | exact P6 | exact P7 | exact P8 | exact P9 | exact P10 | exact P11 | exact P12 | exact P13 | exact P14 | exact P15 | exact P16 | exact P17 | exact P18 | exact P19 | exact P20 | exact P21 | exact P22 | exact P23)) | (apply Part.flat; simp only [List.cons_append, List.nil_append]) | (apply Part.cons; (first | exact P0 | exact P1 | exact P2 | exact P3 | exact P4 | exact P5 | exact P6 | exact P7 | exact P8 | exact P9 | exact P10 | exact P11 | exact P12 | exact P13 | exact P14 | exact P15 | exact P16 | exact P17 | exact P18 | exact P19 | exact P20 | exact P21 | exact P22 | exact P23)) | (apply Part.nilc))) ?_)
  rintro v post H' ⟨rfl, rfl⟩ hH
  try simp only [List.cons_append, List.nil_append] at hH
  subst hH
  rw [u8M_nx hq2, (nx_some hq2).2.1]
  replace hr := hr.nx hq2
  refine SPL_y (y_assign rfl) rfl ?_
  refine SPL_nil ?_
  refine thenP_n ?_
  refine SP_seq ?_
  refine SP_seq ?_
  refine SP_region ?_
  refine SPL_y (y_move rfl) rfl ?_
  refine SPL_if (y_lss rfl rfl) rfl ?_ ?_
  · intro h3_1
    rw [if_neg (by omega)] at hP; cases hP
  intro h3_1
  refine SPL_y (y_move rfl) rfl ?_
  refine SPL_gy rfl rfl ?_
  refine SPL_y (y_move rfl) rfl ?_
  refine SPL_gy rfl rfl ?_
  refine SPL_if (y_gtr rfl rfl) rfl ?_ ?_
  · intro h3_4
    rw [if_neg (by omega)] at hP; cases hP
  intro h3_4
  refine SPL_y (y_pick_f rfl rfl) rfl ?_
  refine SPL_nil ?_
  refine thenP_n ?_
  refine SP_cond_f rfl ?_
  refine SP_skip ?_
  refine thenP_n ?_
  refine SP_seq ?_
  refine SP_seq ?_
  rw [if_pos (by omega)] at hP
  obtain ⟨g1, r2, hgl, hP⟩ := bnd2 hP
  have hby2 := byA_lt ⟨l, 0, false⟩ 0
  refine SP_region ?_
  refine SPL_y (y_assign rfl) rfl ?_
  refine SPL_nil ?_
  refine thenP_n ?_
  refine SP_block ?_
  refine SP_loop (G := Int × Nat × Rd × Pg × PH × Seg) (fun g => g.2.1) (fun g => [(0, pt b.vb), (5, pt rb), (6, .int .u8 ((byA ⟨l, 0, false⟩ 0 : Nat) : Int)), (7, I g.1)]) (fun g => [rdSeg rb lb cap sp g.2.2.1, g.2.2.2.2.2]) (fun g => (0 ≤ g.1 ∧ g.1 + (g.2.1 : Nat) = ((byA ⟨l, 0, false⟩ 0 : Nat) : Int)) ∧ isVM b g.2.2.2.2.1 hh { m with pg := g.2.2.2.1 } g.2.2.2.2.2 ∧ prtL g.2.1 g.2.2.1 g.2.2.2.1 = some (g1, r2) ∧ rdOk cap g.2.2.1 ∧ g.2.2.1.bad = false ∧ g.2.2.1.l = l) ((0, byA ⟨l, 0, false⟩ 0, r1, m.pg, ph, seg)) (⟨⟨by dsimp only; omega, by dsimp only; omega⟩, hM, hgl, hr, nx_bad hq2, nx_l hq2⟩) (by repeat (first | exact Sub.nil _ | refine Sub.cons rfl ?_)) (by repeat (first | exact Part.nil _ | (apply Part.cons; with_reducible (first | exact P0 | exact P1 | exact P2 | exact P3 | exact P4 | exact P5 | exact P6 | exact P7 | exact P8 | exact P9 | exact P10 | exact P11 | exact P12 | exact P13 | exact P14 | exact P15 | exact P16 | exact P17 | exact P18 | exact P19 | exact P20 | exact P21 | exact P22 | exact P23)) | (apply Part.flat; simp only [List.cons_append, List.nil_append]) | (apply Part.cons; (first | exact P0 | exact P1 | exact P2 | exact P3 | exact P4 | exact P5 | exact P6 | exact P7 | exact P8 | exact P9 | exact P10 | exact P11 | exact P12 | exact P13 | exact P14 | exact P15 | exact P16 | exact P17 | exact P18 | exact P19 | exact P20 | exact P21 | exact P22 | exact P23)) | (apply Part.nilc))) ?_
  rintro ⟨i6, n6, r6, g6, ph6, sg6⟩ ⟨hn6, hM6, hd6, hr, hb6, hl6⟩
  dsimp only at hn6 hM6 hd6 hr hb6 hl6
  refine SP_seq ?_
  refine SP_seq ?_
  refine SP_region ?_
  refine SPL_y (y_move rfl) rfl ?_
  refine SPL_y (y_move rfl) rfl ?_
  refine SPL_y (y_conv Tryz.underlying5 Tryz.underlying3 rfl (show IntKind.i64.wrap ((byA ⟨l, 0, false⟩ 0 : Nat) : Int) = ((byA ⟨l, 0, false⟩ 0 : Nat) : Int) from wrap_i64 (by omega) (by have := byA_lt ⟨l, 0, false⟩ 0; omega))) rfl ?_
  refine SPL_if (y_lss rfl rfl) rfl ?_ ?_
  · intro h6_3
    refine SPL_y (y_move rfl) rfl ?_
    refine SPL_gy rfl rfl ?_
    refine SPL_y (y_move rfl) rfl ?_
    refine SPL_gy rfl rfl ?_
    refine SPL_y (y_nil rfl) rfl ?_
    refine SPL_gy rfl rfl ?_
    refine SPL_y (y_fa fld_248_2 rfl) rfl ?_
    refine SPL_gy rfl rfl ?_
    refine SPL_y (y_load Tryz.isAgg4 rfl (by repeat (first | exact (rd_badF hb6) | apply Cell.tail))) rfl ?_
    refine SPL_gy rfl rfl ?_
    refine SPL_y (y_not_f rfl) rfl ?_
    refine SPL_y (y_pick_t rfl rfl) rfl ?_
    refine SPL_nil ?_
    refine thenP_n ?_
    refine SP_cond_t rfl ?_
    refine SP_skip ?_
    refine thenP_n ?_
    refine SP_seq ?_
    refine SP_block ?_
    refine SP_region ?_
    refine SPL_y (y_move rfl) rfl ?_
    refine SPL_y (y_move rfl) rfl ?_
    obtain ⟨k6, rfl⟩ : ∃ k, n6 = k + 1 := ⟨n6 - 1, by omega⟩
    unfold prtL at hd6
    obtain ⟨g8, r8, hq8, hd6⟩ := bnd2 hd6
    refine SPL_one rfl (SP1_call (vm_proto b ph6 hh (m := { m with pg := g6 }) rb lb cap sp hr hq8 _ hM6) Tryz.call132 rfl rfl (by repeat (first | exact Part.nil _ | (apply Part.cons; with_reducible (first | exact P0 | exact P1 | exact P2 | exact P3 | exact P4 | exact P5 | exact P6 | exact P7 | exact P8 | exact P9 | exact P10 | exact P11 | exact P12 | exact P13 | exact P14 | exact P15 | exact P16 | exact P17 | exact P18 | exact P19 | exact P20 | exact P21 | exact P22 | exact P23)) | (apply Part.flat; simp only [List.cons_append, List.nil_append]) | (apply Part.cons; (first | exact P0 | exact P1 | exact P2 | exact P3 | exact P4 | exact P5 | exact P6 | exact P7 | exact P8 | exact P9 | exact P10 | exact P11 | exact P12 | exact P13 | exact P14 | exact P15 | exact P16 | exact P17 | exact P18 | exact P19 | exact P20 | exact P21 | exact P22 | exact P23)) | (apply Part.nilc))) ?_)
    rintro v post H' ⟨rfl, ph8, sg8, hM8, rfl⟩ hH
    try simp only [List.cons_append, List.nil_append] at hH
    subst hH
    refine SPL_nil ?_
    refine inBlockP_n ?_
    refine thenP_n ?_
    refine SP_region ?_
    refine SPL_y (y_move rfl) rfl ?_
    refine SPL_y (y_add rfl rfl (by omega)) rfl ?_
    refine SPL_y (y_assign rfl) rfl ?_
    refine SPL_nil ?_
    refine thenP_n ?_
    exact Again.intro ((i6 + 1, k6, r8, g8, ph8, sg8)) (⟨⟨by dsimp only; omega, by dsimp only; omega⟩, hM8, hd6, (prtM_rd hr hq8).1, (prtM_rd hr hq8).2.1, (prtM_rd hr hq8).2.2.trans hl6⟩) (by dsimp only; omega) (by repeat (first | exact Sub.nil _ | refine Sub.cons rfl ?_)) (by repeat (first | exact Part.nil _ | (apply Part.cons; with_reducible (first | exact P0 | exact P1 | exact P2 | exact P3 | exact P4 | exact P5 | exact P6 | exact P7 | exact P8 | exact P9 | exact P10 | exact P11 | exact P12 | exact P13 | exact P14 | exact P15 | exact P16 | exact P17 | exact P18 | exact P19 | exact P20 | exact P21 | exact P22 | exact P23)) | (apply Part.flat; simp only [List.cons_append, List.nil_append]) | (apply Part.cons; (first | exact P0 | exact P1 | exact P2 | exact P3 | exact P4 | exact P5 | exact P6 | exact P7 | exact P8 | exact P9 | exact P10 | exact P11 | exact P12 | exact P13 | exact P14 | exact P15 | exact P16 | exact P17 | exact P18 | exact P19 | exact P20 | exact P21 | exact P22 | exact P23)) | (apply Part.nilc)))
  intro h6_3
  refine SPL_y (y_move rfl) rfl ?_
  refine SPL_gn rfl rfl rfl rfl ?_
  refine SPL_gn rfl rfl rfl rfl ?_
  refine SPL_gn rfl rfl rfl rfl ?_
  refine SPL_gn rfl rfl rfl rfl ?_
  refine SPL_gn rfl rfl rfl rfl ?_
  refine SPL_y (y_pick_f rfl rfl) rfl ?_
  refine SPL_nil ?_
  refine thenP_n ?_
  refine SP_cond_f rfl ?_
  refine SP_exit ?_
  refine thenP_exit ?_
  refine thenP_exit ?_
  refine inBlockP_hit ?_
  refine thenP_n ?_
  refine SP_seq ?_
  refine SP_seq ?_
  have hn0 : n6 = 0 := by omega
  subst hn0
  unfold prtL at hd6
  injection hd6 with hd6
  injection hd6 with e1 e2
  replace e1 := e1.symm
  replace e2 := e2.symm
  subst e1
  subst e2
  have hok : r2.i = l.length ∧ okPg g1 = true := Decidable.byContradiction fun q => by rw [if_neg q] at hP; cases hP
  rw [if_pos hok] at hP
  injection hP with hP
  subst hP
  have hl6b : r2.l.length = l.length := by rw [hl6]
  refine SP_draw 999 [(0, 0), (1, 0), (2, 0), (3, 1), (4, 0), (5, 0), (6, 0), (7, 0), (9, 0), (10, 0), (11, 0), (8, 1), (12, 1), (13, 0), (14, 0), (15, 0)] mixed (by kernel_rfl) (fun _ _ _ _ _ h => h) (Part.refl _) ?_
  refine SPO_p rfl (y_move rfl) rfl ?_
  refine SPO_p rfl (y_nil rfl) rfl ?_
  refine SPO_p rfl (y_fa fld_248_2 rfl) rfl ?_
  refine SPO_h rfl (y_load Tryz.isAgg4 rfl (by repeat (first | exact (rd_badF hb6) | apply Cell.tail))) rfl ?_
  refine SPO_p rfl (y_move rfl) rfl ?_
  refine SPO_py rfl rfl rfl (y_move rfl) rfl ?_
  refine SPO_py rfl rfl rfl (y_nil rfl) rfl ?_
  refine SPO_py rfl rfl rfl (y_fa fld_248_1 rfl) rfl ?_
  refine SPO_py rfl rfl rfl (y_move rfl) rfl ?_
  refine SPO_py rfl rfl rfl (y_nil rfl) rfl ?_
  refine SPO_py rfl rfl rfl (y_fa fld_248_0 rfl) rfl ?_
  refine SPO_hy rfl rfl rfl (y_load Tryz.isAgg3 rfl (by repeat (first | exact rd_i | apply Cell.tail))) rfl ?_
  refine SPO_hy rfl rfl rfl (y_load Tryz.isAgg67 rfl (by repeat (first | exact rd_sl | apply Cell.tail))) rfl ?_
  refine SPO_py rfl rfl rfl (y_len_l Tryz.underlying67 rfl) rfl ?_
  refine SPO_pyif rfl rfl rfl (y_neq rfl rfl) rfl ?_ ?_
  · intro h9_14
    dsimp only at h9_14; omega
  intro h9_14
  refine SPO_p rfl (y_pick_f rfl rfl) rfl ?_
  refine SPO_nil ?_
  refine thenP_n ?_
  refine SP_cond_f rfl ?_
  refine SP_skip ?_
  refine thenP_n ?_
  refine SP_seq ?_
  obtain ⟨p0, hp0, hpa, hpb⟩ := okPg_at hok.2
  obtain ⟨pq, hpq, hpc⟩ := hM6.proto hp0
  have hpl : 0 < g1.protos.length := by have := (getI_some hp0).2.1; omega
  have hpr : ∀ H : Hp, Cell (sg6 :: H) b.vb (0 + 2) (.slice (some ⟨pq, 0, none⟩) g1.protos.length ph6.pc) := fun H => by
    have := hM6.protos (H := H)
    rw [hpq] at this
    exact this
  have hp1 : ∀ H : Hp, Cell (sg6 :: H) pq (0 + (0 : Int).toNat * 8 + 0) (I 0) := fun H => by
    have := (hpc H).cell (j := 0) (v := I p0.nparams) rfl
    rwa [hpa] at this
  have hp2 : ∀ H : Hp, Cell (sg6 :: H) pq (0 + (0 : Int).toNat * 8 + 3) (I 0) := fun H => by
    have := (hpc H).cell (j := 3) (v := I p0.nup) rfl
    rwa [hpb] at this
  refine SP_region ?_
  refine SPL_y (y_move rfl) rfl ?_
  refine SPL_y (y_nil rfl) rfl ?_
  refine SPL_y (y_fa fld_115_2 rfl) rfl ?_
  refine SPL_y (y_load Tryz.isAgg108 rfl (by repeat (first | exact (hpr _) | apply Cell.tail))) rfl ?_
  refine SPL_y (y_ia Tryz.underlying108 Tryz.sizeOf252 rfl rfl (by omega)) rfl ?_
  refine SPL_y (y_fa fld_252_0 rfl) rfl ?_
  refine SPL_y (y_load Tryz.isAgg3 rfl (by repeat (first | exact (hp1 _) | apply Cell.tail))) rfl ?_
  refine SPL_ifn (y_eql rfl rfl) rfl ?_ ?_
  · intro h11_7
    omega
  intro h11_7
  refine SPL_y (y_move rfl) rfl ?_
  refine SPL_gy rfl rfl ?_
  refine SPL_y (y_move rfl) rfl ?_
  refine SPL_gy rfl rfl ?_
  refine SPL_y (y_nil rfl) rfl ?_
  refine SPL_gy rfl rfl ?_
  refine SPL_y (y_fa fld_115_2 rfl) rfl ?_
  refine SPL_gy rfl rfl ?_
  refine SPL_y (y_load Tryz.isAgg108 rfl (by repeat (first | exact (hpr _) | apply Cell.tail))) rfl ?_
  refine SPL_gy rfl rfl ?_
  refine SPL_y (y_ia Tryz.underlying108 Tryz.sizeOf252 rfl rfl (by omega)) rfl ?_
  refine SPL_gy rfl rfl ?_
  refine SPL_y (y_fa fld_252_3 rfl) rfl ?_
  refine SPL_gy rfl rfl ?_
  refine SPL_y (y_load Tryz.isAgg3 rfl (by repeat (first | exact (hp2 _) | apply Cell.tail))) rfl ?_
  refine SPL_gy rfl rfl ?_
  refine SPL_y (y_eql rfl rfl) rfl ?_
  refine SPL_y (y_pick_t rfl rfl) rfl ?_
  refine SPL_y (y_assign rfl) rfl ?_
  refine SPL_nil ?_
  refine thenP_n ?_
  refine SP_ret ?_
  refine bodyP_ret (H' := [sg6]) (Res1 rfl rfl) (by repeat (first | exact Part.nil _ | (apply Part.cons; with_reducible (first | exact P0 | exact P1 | exact P2 | exact P3 | exact P4 | exact P5 | exact P6 | exact P7 | exact P8 | exact P9 | exact P10 | exact P11 | exact P12 | exact P13 | exact P14 | exact P15 | exact P16 | exact P17 | exact P18 | exact P19 | exact P20 | exact P21 | exact P22 | exact P23)) | (apply Part.flat; simp only [List.cons_append, List.nil_append]) | (apply Part.cons; (first | exact P0 | exact P1 | exact P2 | exact P3 | exact P4 | exact P5 | exact P6 | exact P7 | exact P8 | exact P9 | exact P10 | exact P11 | exact P12 | exact P13 | exact P14 | exact P15 | exact P16 | exact P17 | exact P18 | exact P19 | exact P20 | exact P21 | exact P22 | exact P23)) | (apply Part.nilc))) ?_
  exact ⟨rfl, _, _, hM6, rfl⟩

end Go.Sl
