/- Walks: package compm: a call (made by program out of short notes) -/
import Derived.Test.Qxb6500573aGreatDoorCMI
namespace Go.Sl
open Go Go.Wl Go.Proofs
open Go.Nm
set_option maxRecDepth 100000
set_option linter.unusedVariables false
set_option linter.unusedSimpArgs false
theorem argR3 (b5 : Nat) (z0 z1 z2 : V) (y : Nat) (h : y ≤ 3) : ArgR (.slice (some ⟨b5, 0, none⟩) y 3) ([z0, z1, z2].take y) (blk b5 277 (valV z0 ++ valV z1 ++ valV z2)) := by
  refine ⟨some ⟨b5, 0, none⟩, 3, by simp [Nat.min_eq_left h], by simp; omega, fun i hi => ⟨b5, 0, rfl, fun H => ?_⟩⟩
  have hi3 : i < 3 := by simp at hi; omega
  have e : ([z0, z1, z2].take y)[i] = [z0, z1, z2][i] := by rw [List.getElem_take]
  rw [e]
  match i, hi3 with
  | 0, _ => exact Cells.head rfl
  | 1, _ => exact Cells.head rfl
  | 2, _ => exact Cells.head rfl
theorem argR1 (b5 : Nat) (z0 z1 z2 : V) (cp : Nat) : ArgR (.slice (some ⟨b5, 0 + 1 * 3, none⟩) 1 cp) [z1] (blk b5 277 (valV z0 ++ valV z1 ++ valV z2)) := by
  refine ⟨some ⟨b5, 0 + 1 * 3, none⟩, cp, rfl, by simp, fun i hi => ⟨b5, 0 + 1 * 3, rfl, fun H => ?_⟩⟩
  obtain rfl : i = 0 := by simpa using hi
  exact Cells.head rfl
theorem arg0 {args : List V} {z0 z1 z2 : V} {y : Nat} (h : args = [z0, z1, z2].take y) (hz : y ≤ 0 → z0 = V.nil) : args.getD 0 V.nil = z0 := by
  subst h
  cases y with
  | zero => rw [hz (Nat.le_refl _)]; rfl
  | succ k => rfl
theorem arg1 {args : List V} {z0 z1 z2 : V} {y : Nat} (h : args = [z0, z1, z2].take y) (hz : y ≤ 1 → z1 = V.nil) : args.getD 1 V.nil = z1 := by
  subst h
  match y with
  | 0 => rw [hz (by omega)]; rfl
  | 1 => rw [hz (by omega)]; rfl
  | k + 2 => rfl
theorem popN_go {k : Nat} {m m2 : RnM} {l : List V} (h : popN (k + 1) m = some (l, m2)) : ∃ v m1 l1, rpop m = some (v, m1) ∧ popN k m1 = some (l1, m2) ∧ l = l1 ++ [v] := by
  rw [popN] at h
  obtain ⟨v, m1, h1, h2⟩ := bnd2 h
  obtain ⟨l1, m3, h3, h4⟩ := bnd2 h2
  injection h4 with h4
  injection h4 with h5 h6
  subst h5 h6
  exact ⟨v, m1, l1, h1, h3, rfl⟩
theorem set5 {s0 s1 s2 s3 s4 v : Int} (k : Nat) : ([I s0, I s1, I s2, I s3, I s4] : List Value).set (((k : Nat) : Int).toNat * 1) (I v) = (([s0, s1, s2, s3, s4] : List Int).set k v).map (fun i => I i) := by
  rw [Int.toNat_natCast, Nat.mul_one]
  match k with
  | 0 => rfl
  | 1 => rfl
  | 2 => rfl
  | 3 => rfl
  | 4 => rfl
  | k + 5 => rfl
theorem isRm_newTh {x : RX} {eb hb : List Nat} {m : RnM} {s : Seg} (h : isRm x eb hb m s) (hl : m.ths.length ≤ 1000) :
    ∃ ca cc ha hc s0 s1 s2 s3 s4 A sH Z, s = List.flatten [blk x.b 142 [ptr x.nb, ptr x.tb, .slice x.na m.nodes.length x.nc, I m.root, .slice ca m.clos.length cc, .slice ha m.ths.length hc, I s0, I s1, I s2, I s3, I s4, I m.sp, I m.cur, I m.fuel, I m.first, S m.out, .bool m.done, I m.ans.e, I m.ans.n, I m.ans.m, S m.ans.s, S m.ans.t], A, sH, Z] ∧ Arr 149 1 ha m.ths.length hc (hb.map ptr) sH ∧
      ∀ (b : Nat) (f : Int) (ha' : Option Addr) (hc' : Nat) (sH' : Seg), Arr 149 1 ha' (m.ths.length + 1) hc' ((hb ++ [b]).map ptr) sH' →
        ∃ s', isRm x eb (hb ++ [b]) { m with ths := m.ths ++ [⟨1, f, 0, [], []⟩] } s' ∧ ∀ H : Hp, Part (blk x.b 142 [ptr x.nb, ptr x.tb, .slice x.na m.nodes.length x.nc, I m.root, .slice ca m.clos.length cc, .slice ha' (m.ths.length + 1) hc', I s0, I s1, I s2, I s3, I s4, I m.sp, I m.cur, I m.fuel, I m.first, S m.out, .bool m.done, I m.ans.e, I m.ans.n, I m.ans.m, S m.ans.s, S m.ans.t] :: A :: sH' :: Z :: blk b 152 [I 1, I f, I 0, .slice none 0 0, .slice none 0 0] :: H) (s' :: H) [] := by
  obtain ⟨ca, cc, ha, hc, sN, sC, sH, sT, sB, rfl, h1, h2, h3, h4, h5, h6⟩ := h
  obtain ⟨s0, s1, s2, s3, s4, hs⟩ := five h6.st
  refine ⟨ca, cc, ha, hc, s0, s1, s2, s3, s4, List.flatten [sN, sC], sH, List.flatten [sT, evS eb eb m.envs, sB], ?_, h3, fun b f ha' hc' sH' hA => ?_⟩
  · unfold rnV; rw [hs]; simp
  · have hth : thR eb b (⟨1, f, 0, [], []⟩ : ThM) (List.flatten [blk b 152 [I 1, I f, I 0, .slice none 0 0, .slice none 0 0], [], []]) := ⟨none, 0, none, 0, [], [], rfl, Arr.nil 206 4, Arr.nil 42 3⟩
    refine ⟨_, ⟨ca, cc, ha', hc', sN, sC, sH', _, sB, rfl, h1, h2, by simpa using hA, thsR_app hth h4, h5, ⟨h6.el, by simp [h6.hl], fun t ht q hq => ?_, h6.cl, h6.ev, h6.st⟩⟩, fun H => ?_⟩
    · rcases List.mem_append.1 ht with ht | ht
      · exact h6.tk t ht q hq
      · rw [List.mem_singleton.1 ht] at hq; cases hq
    · unfold Part rnV
      rw [hs]
      simp only [List.flatten_cons, List.flatten_nil, List.append_nil, List.append_assoc, List.map_cons, List.map_nil, List.cons_append, List.nil_append, List.length_append, List.length_cons, List.length_nil, Nat.zero_add]
      refine List.Perm.append_left _ ?_
      refine List.Perm.append_left _ ?_
      refine List.Perm.append_left _ ?_
      refine List.Perm.append_left _ ?_
      refine List.Perm.append_left _ ?_
      have := (List.perm_append_comm (l₁ := evS eb eb m.envs ++ sB) (l₂ := blk b 152 [I 1, I f, I 0, Value.slice none 0 0, Value.slice none 0 0])).append_right H.flatten
      simpa [List.append_assoc] using this
theorem getD_th {l : List ThM} {i : Nat} (h : i < l.length) : l.getD i thD = l[i] := by rw [List.getD_eq_getElem?_getD, List.getElem?_eq_getElem h]; rfl
theorem tk1 {l : List V} {v z1 z2 : V} {y : Nat} (h : 1 ≤ y) : (l ++ [v]) ++ [z1, z2].take (y - 1) = l ++ [v, z1, z2].take y := by
  obtain ⟨k, rfl⟩ : ∃ k, y = k + 1 := ⟨y - 1, by omega⟩
  simp
theorem tk2 {l : List V} {v z0 z1 z2 : V} {y : Nat} (h : 2 ≤ y) : (l ++ [v]) ++ ([z0, z1, z2].drop 2).take (y - 2) = l ++ ([z0, v, z2].drop 1).take (y - 1) := by
  obtain ⟨k, rfl⟩ : ∃ k, y = k + 2 := ⟨y - 2, by omega⟩
  simp
theorem tk3 {l : List V} {v z0 z1 z2 : V} {y : Nat} (h : 3 ≤ y) : (l ++ [v]) ++ ([z0, z1, z2].drop 3).take (y - 3) = l ++ ([z0, z1, v].drop 2).take (y - 2) := by
  obtain ⟨k, rfl⟩ : ∃ k, y = k + 3 := ⟨y - 3, by omega⟩
  simp
set_option maxHeartbeats 1600000 in
theorem cm_apply (x : RX) (eb hb : List Nat) {m m' : RnM} {y : Int} (hP : rapply y m = some m') (s : Seg) (hM : isRm x eb hb m s) : Spec Tryz.prog 109 [ptr x.b, I y] [s] (Ret fun v H => v = .tuple #[] ∧ ∃ eb' hb' s', Gr eb hb eb' hb' ∧ isRm x eb' hb' m' s' ∧ H = [s']) := by
  unfold rapply at hP
  obtain ⟨ok, m1, hq1, hP⟩ := bnd2 hP
  refine Spec_enter Tryz.func109 rfl Tryz.ntmps109 rfl ?_
  show SP _ _ _ _ _ [(0, _), (1, _)] _
  refine SP_seq ?_
  refine SP_seq ?_
  refine SP_region ?_
  refine SPL_y (y_move rfl) rfl ?_
  refine SPL_one rfl (SP1_call (cm_burn x eb hb hq1 _ hM) Tryz.call103 rfl rfl (by repeat (first | exact Part.nil _ | (apply Part.cons; with_reducible (first | exact P0 | exact P1 | exact P2 | exact P3 | exact P4 | exact P5 | exact P6 | exact P7 | exact P8 | exact P9 | exact P10 | exact P11 | exact P12 | exact P13 | exact P14 | exact P15 | exact P16 | exact P17 | exact P18 | exact P19 | exact P20 | exact P21 | exact P22 | exact P23)) | (apply Part.flat; simp only [List.cons_append, List.nil_append]) | (apply Part.cons; (first | exact P0 | exact P1 | exact P2 | exact P3 | exact P4 | exact P5 | exact P6 | exact P7 | exact P8 | exact P9 | exact P10 | exact P11 | exact P12 | exact P13 | exact P14 | exact P15 | exact P16 | exact P17 | exact P18 | exact P19 | exact P20 | exact P21 | exact P22 | exact P23)) | (apply Part.nilc))) ?_)
  rintro v post H' ⟨rfl, sg1, hM1, rfl⟩ hH
  rcases ok with _ | _
  · try simp only [List.cons_append, List.nil_append] at hH
    subst hH
    try dsimp only [cond_true, cond_false, Bool.true_or, Bool.false_or] at hP
    refine SPL_y (y_not_f rfl) rfl ?_
    refine SPL_nil ?_
    refine thenP_n ?_
    refine SP_cond_t rfl ?_
    refine SP_ret ?_
    refine thenP_ret (bodyP_ret (H' := [sg1]) (Res0 rfl) (by repeat (first | exact Part.nil _ | (apply Part.cons; with_reducible (first | exact P0 | exact P1 | exact P2 | exact P3 | exact P4 | exact P5 | exact P6 | exact P7 | exact P8 | exact P9 | exact P10 | exact P11 | exact P12 | exact P13 | exact P14 | exact P15 | exact P16 | exact P17 | exact P18 | exact P19 | exact P20 | exact P21 | exact P22 | exact P23)) | (apply Part.flat; simp only [List.cons_append, List.nil_append]) | (apply Part.cons; (first | exact P0 | exact P1 | exact P2 | exact P3 | exact P4 | exact P5 | exact P6 | exact P7 | exact P8 | exact P9 | exact P10 | exact P11 | exact P12 | exact P13 | exact P14 | exact P15 | exact P16 | exact P17 | exact P18 | exact P19 | exact P20 | exact P21 | exact P22 | exact P23)) | (apply Part.nilc))) ?_)
    rw [if_pos rfl] at hP
    injection hP with hP
    subst hP
    exact ⟨rfl, eb, hb, _, Gr.refl _ _, hM1, rfl⟩
  · try simp only [List.cons_append, List.nil_append] at hH
    subst hH
    try dsimp only [cond_true, cond_false, Bool.true_or, Bool.false_or] at hP
    refine SPL_y (y_not_t rfl) rfl ?_
    refine SPL_nil ?_
    refine thenP_n ?_
    refine SP_cond_f rfl ?_
    refine SP_skip ?_
    refine thenP_n ?_
    refine SP_seq ?_
    rw [if_neg (by decide)] at hP
    have hg : curOk m1 ∧ (0 ≤ y ∧ y ≤ 3) := Decidable.byContradiction fun q => by rw [if_pos q] at hP; cases hP
    rw [if_neg (fun q => q hg)] at hP
    obtain ⟨⟨hg1, hg2⟩, hg3⟩ := hg
    obtain ⟨c, hcc1⟩ : ∃ c : Nat, m1.cur = c := ⟨m1.cur.toNat, by omega⟩
    have hc1 : c < m1.ths.length := by omega
    obtain ⟨yn, rfl⟩ : ∃ k : Nat, y = k := ⟨y.toNat, by omega⟩
    rw [Int.toNat_natCast] at hP
    obtain ⟨args, m2, hpn, hPa⟩ := bnd2 hP
    obtain ⟨fn, m3, hpf, hPb⟩ := bnd2 hPa
    clear hPa hP
    have hP := hPb
    clear hPb
    obtain ⟨hk1, hcp1, ta1, tc1, va1, vc1, hTa1, hTb1, hTc1, _, _⟩ := hM1.thr hc1
    have hTd1 := hM1.cCur
    rw [hcc1] at hTd1
    refine SP_draw 999 [(0, 0), (1, 0), (2, 0), (4, 0), (5, 0), (6, 0), (3, 1), (7, 1), (8, 0), (9, 1), (10, 0)] mixed (by kernel_rfl) (fun _ _ _ _ _ h => h) (Part.refl _) ?_
    refine SPO_p rfl (y_move rfl) rfl ?_
    refine SPO_p rfl (y_nil rfl) rfl ?_
    refine SPO_p rfl (y_fa fld_142_5 rfl) rfl ?_
    refine SPO_p rfl (y_move rfl) rfl ?_
    refine SPO_p rfl (y_nil rfl) rfl ?_
    refine SPO_p rfl (y_fa fld_142_8 rfl) rfl ?_
    refine SPO_h rfl (y_load Tryz.isAgg139 rfl (by repeat (first | exact hTa1 _ | apply Cell.tail))) rfl ?_
    refine SPO_h rfl (y_load Tryz.isAgg3 rfl (by repeat (first | exact hTd1 _ | apply Cell.tail))) rfl ?_
    refine SPO_p rfl (y_ia Tryz.underlying139 Tryz.sizeOf149 rfl rfl (by omega)) rfl ?_
    refine SPO_h rfl (y_load Tryz.isAgg149 rfl (by repeat (first | exact hTb1 _ | apply Cell.tail))) rfl ?_
    refine SPO_p rfl (y_assign rfl) rfl ?_
    refine SPO_nil ?_
    refine thenP_n ?_
    refine SP_seq ?_
    refine SP_region ?_
    refine SPL_one rfl (SP1_alloc Tryz.zeroValue277 rfl rfl ?_)
    intro b5
    refine SPL_nil ?_
    refine thenP_n ?_
    refine SP_seq ?_
    refine SP_seq ?_
    refine SP_region ?_
    refine SPL_y (y_move rfl) rfl ?_
    refine SPL_y (y_sub rfl rfl (by omega)) rfl ?_
    refine SPL_y (y_assign rfl) rfl ?_
    refine SPL_nil ?_
    refine thenP_n ?_
    refine SP_block ?_
    refine SP_loop (G := Nat × Int × V × V × V × RnM × Seg) (fun g => g.1) (fun g => [(0, ptr x.b), (1, I (yn : Int)), (4, ptr (hb.getD c 0)), (5, ptr b5), (6, I g.2.1)]) (fun g => [g.2.2.2.2.2.2, blk b5 277 (valV g.2.2.1 ++ valV g.2.2.2.1 ++ valV g.2.2.2.2.1)]) (fun g => isRm x eb hb g.2.2.2.2.2.1 g.2.2.2.2.2.2 ∧ g.2.1 = (g.1 : Int) - 1 ∧ g.1 ≤ yn ∧ ∃ l, popN g.1 g.2.2.2.2.2.1 = some (l, m2) ∧ args = l ++ ([g.2.2.1, g.2.2.2.1, g.2.2.2.2.1].drop g.1).take (yn - g.1) ∧ (yn ≤ 0 → g.2.2.1 = V.nil) ∧ (yn ≤ 1 → g.2.2.2.1 = V.nil) ∧ (yn ≤ 2 → g.2.2.2.2.1 = V.nil)) ((yn, (yn : Int) - 1, V.nil, V.nil, V.nil, m1, sg1)) (⟨hM1, rfl, Nat.le_refl _, args, hpn, by simp, fun _ => rfl, fun _ => rfl, fun _ => rfl⟩) (by repeat (first | exact Sub.nil _ | refine Sub.cons rfl ?_)) (by repeat (first | exact Part.nil _ | (apply Part.cons; with_reducible (first | exact P0 | exact P1 | exact P2 | exact P3 | exact P4 | exact P5 | exact P6 | exact P7 | exact P8 | exact P9 | exact P10 | exact P11 | exact P12 | exact P13 | exact P14 | exact P15 | exact P16 | exact P17 | exact P18 | exact P19 | exact P20 | exact P21 | exact P22 | exact P23)) | (apply Part.flat; simp only [List.cons_append, List.nil_append]) | (apply Part.cons; (first | exact P0 | exact P1 | exact P2 | exact P3 | exact P4 | exact P5 | exact P6 | exact P7 | exact P8 | exact P9 | exact P10 | exact P11 | exact P12 | exact P13 | exact P14 | exact P15 | exact P16 | exact P17 | exact P18 | exact P19 | exact P20 | exact P21 | exact P22 | exact P23)) | (apply Part.nilc))) ?_
    rintro ⟨i, ii, z0, z1, z2, m5, sg5⟩ ⟨hM5, hii, hiy, l, hpl, hagl, hz0, hz1, hz2⟩
    dsimp only at hM5 hii hiy hpl hagl hz0 hz1 hz2 ⊢
    have hiy3 : i ≤ 3 := by omega
    rcases (by omega : i = 0 ∨ i = 1 ∨ i = 2 ∨ i = 3) with rfl | rfl | rfl | rfl <;> subst hii
    · rw [popN] at hpl
      injection hpl with hpl
      injection hpl with he1 he2
      subst he1
      subst he2
      have hag : args = [z0, z1, z2].take yn := by simpa using hagl
      have hz0e := arg0 hag hz0
      have hz1e := arg1 hag hz1
      refine SP_seq ?_
      refine SP_seq ?_
      refine SP_region ?_
      refine SPL_y (y_move rfl) rfl ?_
      refine SPL_if (y_geq rfl rfl) rfl ?_ ?_
      · intro h4_1
        first | rw [if_pos h4_1] at hP | rw [if_neg h4_1] at hP | skip
        exact absurd h4_1 (by omega)
      intro h4_1
      first | rw [if_neg h4_1] at hP | rw [if_pos (Decidable.not_not.1 h4_1)] at hP | skip
      refine SPL_nil ?_
      refine thenP_n ?_
      refine SP_cond_f rfl ?_
      refine SP_exit ?_
      refine thenP_exit ?_
      refine thenP_exit ?_
      refine inBlockP_hit ?_
      refine thenP_n ?_
      refine SP_seq ?_
      refine SP_region ?_
      refine SPL_y (y_move rfl) rfl ?_
      refine SPL_one rfl (SP1_call (cm_pop x eb hb hpf _ hM5) Tryz.call99 rfl rfl (by repeat (first | exact Part.nil _ | (apply Part.cons; with_reducible (first | exact P0 | exact P1 | exact P2 | exact P3 | exact P4 | exact P5 | exact P6 | exact P7 | exact P8 | exact P9 | exact P10 | exact P11 | exact P12 | exact P13 | exact P14 | exact P15 | exact P16 | exact P17 | exact P18 | exact P19 | exact P20 | exact P21 | exact P22 | exact P23)) | (apply Part.flat; simp only [List.cons_append, List.nil_append]) | (apply Part.cons; (first | exact P0 | exact P1 | exact P2 | exact P3 | exact P4 | exact P5 | exact P6 | exact P7 | exact P8 | exact P9 | exact P10 | exact P11 | exact P12 | exact P13 | exact P14 | exact P15 | exact P16 | exact P17 | exact P18 | exact P19 | exact P20 | exact P21 | exact P22 | exact P23)) | (apply Part.nilc))) ?_)
      rintro v post H' ⟨rfl, sg3, hM3, rfl⟩ hH
      try simp only [List.cons_append, List.nil_append] at hH
      subst hH
      refine SPL_one rfl (SP1_alloc Tryz.zeroValue42 rfl rfl ?_)
      intro b7
      refine SPL_one rfl (SP1_storeAll Tryz.sizeOf42 rfl rfl rfl rfl rfl (by first | exact U0 | exact U1 | exact U2 | exact U3 | exact U4 | exact U5 | exact U6 | exact U7 | exact U8 | exact U9 | exact U10 | exact U11 | exact U12 | exact U13 | exact U14 | exact U15 | exact U16 | exact U17 | exact U18 | exact U19 | exact U20 | exact U21 | exact U22 | exact U23) (by rfl) ?_)
      refine SPL_nil ?_
      refine thenP_n ?_
      refine SP_seq ?_
      refine SP_seq ?_
      have hg4 : curOk m3 ∧ m3.cur = m1.cur := Decidable.byContradiction fun q => by rw [if_pos q] at hP; cases hP
      rw [if_neg (fun q => q hg4)] at hP
      have hcc3 : m3.cur = c := by rw [hg4.2]; exact hcc1
      have hc3 : c < m3.ths.length := by have := hg4.1.1; omega
      have hg5 := hg4.1.2
      have hth3 := thG_eq hcc3 hc3
      obtain ⟨hk3, hcp3, ta3, tc3, va3, vc3, hTa3, hTb3, hTc3, _, _⟩ := hM3.thr hc3
      have hTd3 := hM3.cCur
      rw [hcc3] at hTd3
      have hTe3 : ∀ H : Hp, Cell (sg3 :: H) (hb.getD c 0) (0 + 2) (I m3.ths[c].depth) := fun H => (hTc3 H).cell (j := 2) rfl
      refine SP_region ?_
      refine SPL_y (y_fa fld_42_0 rfl) rfl ?_
      refine SPL_y (y_load Tryz.isAgg3 rfl (by repeat (first | exact Cell.amid hpre rfl | exact Cell.head rfl | apply Cell.tail))) rfl ?_
      refine SPL_if (y_eql rfl rfl) rfl ?_ ?_
      · intro h8_2
        first | rw [if_pos h8_2] at hP | rw [if_neg h8_2] at hP | skip
        refine SPL_nil ?_
        refine thenP_n ?_
        refine SP_cond_t rfl ?_
        refine SP_seq ?_
        refine SP_seq ?_
        try rw [if_pos h8_2] at hP
        refine SP_region ?_
        refine SPL_y (y_move rfl) rfl ?_
        refine SPL_y (y_nil rfl) rfl ?_
        refine SPL_y (y_fa fld_152_2 rfl) rfl ?_
        refine SPL_y (y_load Tryz.isAgg3 rfl (by repeat (first | exact hTe3 _ | apply Cell.tail))) rfl ?_
        refine SPL_if (y_geq rfl rfl) rfl ?_ ?_
        · intro h9_4
          first | rw [if_pos h9_4] at hP | rw [if_neg h9_4] at hP | skip
          refine SPL_nil ?_
          refine thenP_n ?_
          refine SP_cond_t rfl ?_
          refine SP_seq ?_
          rw [hth3, if_pos (by omega)] at hP
          refine SP_region ?_
          refine SPL_y (y_move rfl) rfl ?_
          refine SPL_one rfl (SP1_call (cm_raise x eb hb hP _ hM3) Tryz.call104 rfl rfl (by repeat (first | exact Part.nil _ | (apply Part.cons; with_reducible (first | exact P0 | exact P1 | exact P2 | exact P3 | exact P4 | exact P5 | exact P6 | exact P7 | exact P8 | exact P9 | exact P10 | exact P11 | exact P12 | exact P13 | exact P14 | exact P15 | exact P16 | exact P17 | exact P18 | exact P19 | exact P20 | exact P21 | exact P22 | exact P23)) | (apply Part.flat; simp only [List.cons_append, List.nil_append]) | (apply Part.cons; (first | exact P0 | exact P1 | exact P2 | exact P3 | exact P4 | exact P5 | exact P6 | exact P7 | exact P8 | exact P9 | exact P10 | exact P11 | exact P12 | exact P13 | exact P14 | exact P15 | exact P16 | exact P17 | exact P18 | exact P19 | exact P20 | exact P21 | exact P22 | exact P23)) | (apply Part.nilc))) ?_)
          rintro v post H' ⟨rfl, sg9, hM9, rfl⟩ hH
          try simp only [List.cons_append, List.nil_append] at hH
          subst hH
          refine SPL_nil ?_
          refine thenP_n ?_
          refine SP_ret ?_
          refine thenP_ret (thenP_ret (bodyP_ret (H' := [sg9]) (Res0 rfl) (by repeat (first | exact Part.nil _ | (apply Part.cons; with_reducible (first | exact P0 | exact P1 | exact P2 | exact P3 | exact P4 | exact P5 | exact P6 | exact P7 | exact P8 | exact P9 | exact P10 | exact P11 | exact P12 | exact P13 | exact P14 | exact P15 | exact P16 | exact P17 | exact P18 | exact P19 | exact P20 | exact P21 | exact P22 | exact P23)) | (apply Part.flat; simp only [List.cons_append, List.nil_append]) | (apply Part.cons; (first | exact P0 | exact P1 | exact P2 | exact P3 | exact P4 | exact P5 | exact P6 | exact P7 | exact P8 | exact P9 | exact P10 | exact P11 | exact P12 | exact P13 | exact P14 | exact P15 | exact P16 | exact P17 | exact P18 | exact P19 | exact P20 | exact P21 | exact P22 | exact P23)) | (apply Part.nilc))) ?_))
          exact ⟨rfl, eb, hb, _, Gr.refl _ _, hM9, rfl⟩
        intro h9_4
        first | rw [if_neg h9_4] at hP | rw [if_pos (Decidable.not_not.1 h9_4)] at hP | skip
        refine SPL_nil ?_
        refine thenP_n ?_
        refine SP_cond_f rfl ?_
        refine SP_skip ?_
        refine thenP_n ?_
        refine SP_seq ?_
        rw [hth3, if_neg (by omega)] at hP
        have hfk : 0 ≤ fn.n ∧ fn.n < 1000000 := Decidable.byContradiction fun q => by rw [if_neg q] at hP; cases hP
        rw [if_pos hfk] at hP
        obtain ⟨fk, hfe⟩ : ∃ k : Nat, fn.n = k := ⟨fn.n.toNat, by omega⟩
        rw [hfe] at hP
        rw [hag] at hP
        refine SP_draw 6 [(0, 0), (1, 0), (4, 0), (5, 0), (2, 1), (3, 0), (6, 3)] mixed (by kernel_rfl) (fun _ _ _ _ _ h => h) (Part.refl _) ?_
        refine SPO_p rfl (y_move rfl) rfl ?_
        refine SPO_p rfl (y_fa fld_42_1 rfl) rfl ?_
        refine SPO_p rfl (y_move rfl) rfl ?_
        refine SPO_p rfl (y_arr_hi Tryz.underlying277 Tryz.sizeOf42 rfl rfl (by omega)) rfl ?_
        refine SPO_h rfl (y_load Tryz.isAgg40 rfl (by repeat (first | exact Cell.amid hpre rfl | exact Cell.head rfl | apply Cell.tail))) rfl ?_
        refine SPO_p rfl (y_conv Tryz.underlying40 Tryz.underlying3 rfl (show IntKind.i64.wrap fn.n = ((fk : Nat) : Int) by rw [hfe, IntKind.wrap_i64]; omega)) rfl ?_
        refine SPO_z (k := 0) rfl rfl (SP1_call (cm_enter x eb hb _ _ (argR3 b5 z0 z1 z2 yn (by omega)) hP _ hM3) Tryz.call64 rfl rfl (by repeat (first | exact Part.nil _ | (apply Part.cons; with_reducible (first | exact P0 | exact P1 | exact P2 | exact P3 | exact P4 | exact P5 | exact P6 | exact P7 | exact P8 | exact P9 | exact P10 | exact P11 | exact P12 | exact P13 | exact P14 | exact P15 | exact P16 | exact P17 | exact P18 | exact P19 | exact P20 | exact P21 | exact P22 | exact P23)) | (apply Part.flat; simp only [List.cons_append, List.nil_append]) | (apply Part.cons; (first | exact P0 | exact P1 | exact P2 | exact P3 | exact P4 | exact P5 | exact P6 | exact P7 | exact P8 | exact P9 | exact P10 | exact P11 | exact P12 | exact P13 | exact P14 | exact P15 | exact P16 | exact P17 | exact P18 | exact P19 | exact P20 | exact P21 | exact P22 | exact P23)) | (apply Part.nilc))) ?_)
        rintro v post H' ⟨rfl, ebE, sg9, hpreE, hM9, rfl⟩ hH
        try simp only [List.cons_append, List.nil_append] at hH
        subst hH
        refine SPO_nil ?_
        refine thenP_n ?_
        refine SP_ret ?_
        refine thenP_ret (bodyP_ret (H' := [sg9]) (Res0 rfl) (by repeat (first | exact Part.nil _ | (apply Part.cons; with_reducible (first | exact P0 | exact P1 | exact P2 | exact P3 | exact P4 | exact P5 | exact P6 | exact P7 | exact P8 | exact P9 | exact P10 | exact P11 | exact P12 | exact P13 | exact P14 | exact P15 | exact P16 | exact P17 | exact P18 | exact P19 | exact P20 | exact P21 | exact P22 | exact P23)) | (apply Part.flat; simp only [List.cons_append, List.nil_append]) | (apply Part.cons; (first | exact P0 | exact P1 | exact P2 | exact P3 | exact P4 | exact P5 | exact P6 | exact P7 | exact P8 | exact P9 | exact P10 | exact P11 | exact P12 | exact P13 | exact P14 | exact P15 | exact P16 | exact P17 | exact P18 | exact P19 | exact P20 | exact P21 | exact P22 | exact P23)) | (apply Part.nilc))) ?_)
        exact ⟨rfl, ebE, hb, _, ⟨hpreE, List.prefix_refl _⟩, hM9, rfl⟩
      intro h8_2
      first | rw [if_neg h8_2] at hP | rw [if_pos (Decidable.not_not.1 h8_2)] at hP | skip
      refine SPL_nil ?_
      refine thenP_n ?_
      refine SP_cond_f rfl ?_
      refine SP_skip ?_
      refine thenP_n ?_
      refine SP_seq ?_
      refine SP_seq ?_
      try rw [if_neg h8_2] at hP
      refine SP_region ?_
      refine SPL_y (y_fa fld_42_0 rfl) rfl ?_
      refine SPL_y (y_load Tryz.isAgg3 rfl (by repeat (first | exact Cell.amid hpre rfl | exact Cell.head rfl | apply Cell.tail))) rfl ?_
      refine SPL_if (y_neq rfl rfl) rfl ?_ ?_
      · intro h12_2
        first | rw [if_pos h12_2] at hP | rw [if_neg h12_2] at hP | skip
        refine SPL_nil ?_
        refine thenP_n ?_
        refine SP_cond_t rfl ?_
        refine SP_seq ?_
        try rw [if_pos h12_2] at hP
        refine SP_region ?_
        refine SPL_y (y_move rfl) rfl ?_
        refine SPL_one rfl (SP1_call (cm_raise x eb hb hP _ hM3) Tryz.call104 rfl rfl (by repeat (first | exact Part.nil _ | (apply Part.cons; with_reducible (first | exact P0 | exact P1 | exact P2 | exact P3 | exact P4 | exact P5 | exact P6 | exact P7 | exact P8 | exact P9 | exact P10 | exact P11 | exact P12 | exact P13 | exact P14 | exact P15 | exact P16 | exact P17 | exact P18 | exact P19 | exact P20 | exact P21 | exact P22 | exact P23)) | (apply Part.flat; simp only [List.cons_append, List.nil_append]) | (apply Part.cons; (first | exact P0 | exact P1 | exact P2 | exact P3 | exact P4 | exact P5 | exact P6 | exact P7 | exact P8 | exact P9 | exact P10 | exact P11 | exact P12 | exact P13 | exact P14 | exact P15 | exact P16 | exact P17 | exact P18 | exact P19 | exact P20 | exact P21 | exact P22 | exact P23)) | (apply Part.nilc))) ?_)
        rintro v post H' ⟨rfl, sg9, hM9, rfl⟩ hH
        try simp only [List.cons_append, List.nil_append] at hH
        subst hH
        refine SPL_nil ?_
        refine thenP_n ?_
        refine SP_ret ?_
        refine thenP_ret (bodyP_ret (H' := [sg9]) (Res0 rfl) (by repeat (first | exact Part.nil _ | (apply Part.cons; with_reducible (first | exact P0 | exact P1 | exact P2 | exact P3 | exact P4 | exact P5 | exact P6 | exact P7 | exact P8 | exact P9 | exact P10 | exact P11 | exact P12 | exact P13 | exact P14 | exact P15 | exact P16 | exact P17 | exact P18 | exact P19 | exact P20 | exact P21 | exact P22 | exact P23)) | (apply Part.flat; simp only [List.cons_append, List.nil_append]) | (apply Part.cons; (first | exact P0 | exact P1 | exact P2 | exact P3 | exact P4 | exact P5 | exact P6 | exact P7 | exact P8 | exact P9 | exact P10 | exact P11 | exact P12 | exact P13 | exact P14 | exact P15 | exact P16 | exact P17 | exact P18 | exact P19 | exact P20 | exact P21 | exact P22 | exact P23)) | (apply Part.nilc))) ?_)
        exact ⟨rfl, eb, hb, _, Gr.refl _ _, hM9, rfl⟩
      intro h12_2
      first | rw [if_neg h12_2] at hP | rw [if_pos (Decidable.not_not.1 h12_2)] at hP | skip
      refine SPL_nil ?_
      refine thenP_n ?_
      refine SP_cond_f rfl ?_
      refine SP_skip ?_
      refine thenP_n ?_
      refine SP_seq ?_
      try rw [if_neg h12_2] at hP
      have hfk : 0 ≤ fn.n ∧ fn.n < 1000000 := Decidable.byContradiction fun q => by rw [if_neg q] at hP; cases hP
      rw [if_pos hfk] at hP
      obtain ⟨fk, hfe⟩ : ∃ k : Nat, fn.n = k := ⟨fn.n.toNat, by omega⟩
      rw [hfe] at hP
      rw [hz0e, hz1e] at hP
      refine SP_region ?_
      refine SPL_y (y_ia_arr Tryz.underlying277 Tryz.sizeOf42 rfl rfl (by decide)) rfl ?_
      refine SPL_y (y_loads Tryz.isAgg42 Tryz.sizeOf42 rfl rfl (by repeat (first | exact Cells.head (vs := valV z0) rfl | apply Cells.tail))) rfl ?_
      refine SPL_one rfl (SP1_alloc Tryz.zeroValue42 rfl rfl ?_)
      intro b8
      refine SPL_one rfl (SP1_storeAll Tryz.sizeOf42 rfl rfl rfl rfl rfl (by first | exact U0 | exact U1 | exact U2 | exact U3 | exact U4 | exact U5 | exact U6 | exact U7 | exact U8 | exact U9 | exact U10 | exact U11 | exact U12 | exact U13 | exact U14 | exact U15 | exact U16 | exact U17 | exact U18 | exact U19 | exact U20 | exact U21 | exact U22 | exact U23) (by rfl) ?_)
      refine SPL_nil ?_
      refine thenP_n ?_
      refine SP_seq ?_
      refine SP_region ?_
      refine SPL_y (y_ia_arr Tryz.underlying277 Tryz.sizeOf42 rfl rfl (by decide)) rfl ?_
      refine SPL_y (y_loads Tryz.isAgg42 Tryz.sizeOf42 rfl rfl (by repeat (first | exact Cells.head (vs := valV z1) rfl | apply Cells.tail))) rfl ?_
      refine SPL_one rfl (SP1_alloc Tryz.zeroValue42 rfl rfl ?_)
      intro b9
      refine SPL_one rfl (SP1_storeAll Tryz.sizeOf42 rfl rfl rfl rfl rfl (by first | exact U0 | exact U1 | exact U2 | exact U3 | exact U4 | exact U5 | exact U6 | exact U7 | exact U8 | exact U9 | exact U10 | exact U11 | exact U12 | exact U13 | exact U14 | exact U15 | exact U16 | exact U17 | exact U18 | exact U19 | exact U20 | exact U21 | exact U22 | exact U23) (by rfl) ?_)
      refine SPL_nil ?_
      refine thenP_n ?_
      refine SP_seq ?_
      refine SP_region ?_
      refine SPL_one rfl (SP1_alloc Tryz.zeroValue42 rfl rfl ?_)
      intro b10
      refine SPL_one rfl (SP1_alloc Tryz.zeroValue42 rfl rfl ?_)
      intro b11
      refine SPL_nil ?_
      refine thenP_n ?_
      refine SP_mid (G := V × V × List Nat × List Nat × RnM × Seg) (fun g => [(0, ptr x.b), (10, ptr b10), (11, ptr b11)]) (fun g => [g.2.2.2.2.2, blk b10 42 (valV g.1), blk b11 42 (valV g.2.1)]) (fun g => Gr eb hb g.2.2.1 g.2.2.2.1 ∧ isRm x g.2.2.1 g.2.2.2.1 g.2.2.2.2.1 g.2.2.2.2.2 ∧ rfin2 g.1 g.2.1 g.2.2.2.2.1 = some m') ?_ ?_
      · refine SP_seq ?_
        refine SP_region ?_
        refine SPL_y (y_fa fld_42_1 rfl) rfl ?_
        refine SPL_y (y_load Tryz.isAgg40 rfl (by repeat (first | exact Cell.amid hpre rfl | exact Cell.head rfl | apply Cell.tail))) rfl ?_
        refine SPL_y (y_conv Tryz.underlying40 Tryz.underlying3 rfl (show IntKind.i64.wrap fn.n = ((fk : Nat) : Int) by rw [hfe, IntKind.wrap_i64]; omega)) rfl ?_
        refine SPL_nil ?_
        refine thenP_n ?_
        refine SP_block ?_
        refine SP_seq ?_
        unfold rbuilt at hP
        refine SP_region ?_
        refine SPL_if (y_eql rfl rfl) rfl ?_ ?_
        · intro h18_0
          first | rw [if_pos h18_0] at hP | rw [if_neg h18_0] at hP | skip
          refine SPL_y (y_assign rfl) rfl ?_
          refine SPL_nil ?_
          refine thenP_n ?_
          refine SP_cond_t rfl ?_
          refine SP_seq ?_
          unfold rprint at hP
          obtain ⟨l, hql, hP⟩ := bnd1 hP
          have hll : l.length ≤ 1000000 ∧ m3.out.length ≤ 1000000 := Decidable.byContradiction fun q => by rw [if_pos q] at hP; cases hP
          rw [if_neg (fun q => q hll)] at hP
          refine SP_draw 5 [(0, 0), (1, 0), (2, 0), (3, 1), (4, 1), (5, 3), (6, 0)] mixed (by kernel_rfl) (fun _ _ _ _ _ h => h) (Part.refl _) ?_
          refine SPO_p rfl (y_move rfl) rfl ?_
          refine SPO_p rfl (y_nil rfl) rfl ?_
          refine SPO_p rfl (y_fa fld_142_0 rfl) rfl ?_
          refine SPO_h rfl (y_load Tryz.isAgg78 rfl (by repeat (first | exact hM3.cNum _ | apply Cell.tail))) rfl ?_
          refine SPO_h rfl (y_loads Tryz.isAgg42 Tryz.sizeOf42 rfl rfl (by repeat (first | exact Cells.all _ | exact Cells.amid hpre rfl (by decide) | exact Cells.head rfl | apply Cells.tail))) rfl ?_
          refine SPO_z (k := 0) rfl rfl (SP1_call (cm_Text _ z0 hql) Tryz.call168 rfl rfl (by repeat (first | exact Part.nil _ | (apply Part.cons; with_reducible (first | exact P0 | exact P1 | exact P2 | exact P3 | exact P4 | exact P5 | exact P6 | exact P7 | exact P8 | exact P9 | exact P10 | exact P11 | exact P12 | exact P13 | exact P14 | exact P15 | exact P16 | exact P17 | exact P18 | exact P19 | exact P20 | exact P21 | exact P22 | exact P23)) | (apply Part.flat; simp only [List.cons_append, List.nil_append]) | (apply Part.cons; (first | exact P0 | exact P1 | exact P2 | exact P3 | exact P4 | exact P5 | exact P6 | exact P7 | exact P8 | exact P9 | exact P10 | exact P11 | exact P12 | exact P13 | exact P14 | exact P15 | exact P16 | exact P17 | exact P18 | exact P19 | exact P20 | exact P21 | exact P22 | exact P23)) | (apply Part.nilc))) ?_)
          rintro v post H' ⟨rfl, rfl⟩ hH
          try simp only [List.cons_append, List.nil_append] at hH
          subst hH
          refine SPO_p rfl (y_assign rfl) rfl ?_
          refine SPO_nil ?_
          refine thenP_n ?_
          refine SP_seq ?_
          refine SP_seq ?_
          refine SP_region ?_
          refine SPL_y (y_move rfl) rfl ?_
          refine SPL_y (y_nil rfl) rfl ?_
          refine SPL_y (y_fa fld_142_11 rfl) rfl ?_
          refine SPL_y (y_load Tryz.isAgg9 rfl (by repeat (first | exact hM3.cOut _ | apply Cell.tail))) rfl ?_
          refine SPL_y (y_len_s Tryz.underlying9 rfl) rfl ?_
          refine SPL_y (y_move rfl) rfl ?_
          refine SPL_y (y_len_s Tryz.underlying9 rfl) rfl ?_
          refine SPL_y (y_add rfl rfl (by omega)) rfl ?_
          refine SPL_y (y_add rfl rfl (by omega)) rfl ?_
          refine SPL_if (y_gtr rfl rfl) rfl ?_ ?_
          · intro h20_9
            first | rw [if_pos h20_9] at hP | rw [if_neg h20_9] at hP | skip
            refine SPL_nil ?_
            refine thenP_n ?_
            refine SP_cond_t rfl ?_
            refine SP_seq ?_
            rw [if_pos (by omega)] at hP
            injection hP with hP
            subst hP
            refine SP_region ?_
            refine SPL_y (y_move rfl) rfl ?_
            refine SPL_one rfl (SP1_call (cm_fin x eb hb 10 [45] _ hM3) Tryz.call158 rfl rfl (by repeat (first | exact Part.nil _ | (apply Part.cons; with_reducible (first | exact P0 | exact P1 | exact P2 | exact P3 | exact P4 | exact P5 | exact P6 | exact P7 | exact P8 | exact P9 | exact P10 | exact P11 | exact P12 | exact P13 | exact P14 | exact P15 | exact P16 | exact P17 | exact P18 | exact P19 | exact P20 | exact P21 | exact P22 | exact P23)) | (apply Part.flat; simp only [List.cons_append, List.nil_append]) | (apply Part.cons; (first | exact P0 | exact P1 | exact P2 | exact P3 | exact P4 | exact P5 | exact P6 | exact P7 | exact P8 | exact P9 | exact P10 | exact P11 | exact P12 | exact P13 | exact P14 | exact P15 | exact P16 | exact P17 | exact P18 | exact P19 | exact P20 | exact P21 | exact P22 | exact P23)) | (apply Part.nilc))) ?_)
            rintro v post H' ⟨rfl, sg9, hM9, rfl⟩ hH
            try simp only [List.cons_append, List.nil_append] at hH
            subst hH
            refine SPL_nil ?_
            refine thenP_n ?_
            refine SP_ret ?_
            refine thenP_ret (inBlockP_ret (thenP_ret (bodyP_ret (H' := [sg9]) (Res0 rfl) (by repeat (first | exact Part.nil _ | (apply Part.cons; with_reducible (first | exact P0 | exact P1 | exact P2 | exact P3 | exact P4 | exact P5 | exact P6 | exact P7 | exact P8 | exact P9 | exact P10 | exact P11 | exact P12 | exact P13 | exact P14 | exact P15 | exact P16 | exact P17 | exact P18 | exact P19 | exact P20 | exact P21 | exact P22 | exact P23)) | (apply Part.flat; simp only [List.cons_append, List.nil_append]) | (apply Part.cons; (first | exact P0 | exact P1 | exact P2 | exact P3 | exact P4 | exact P5 | exact P6 | exact P7 | exact P8 | exact P9 | exact P10 | exact P11 | exact P12 | exact P13 | exact P14 | exact P15 | exact P16 | exact P17 | exact P18 | exact P19 | exact P20 | exact P21 | exact P22 | exact P23)) | (apply Part.nilc))) ?_)))
            exact ⟨rfl, eb, hb, _, Gr.refl _ _, hM9, rfl⟩
          intro h20_9
          first | rw [if_neg h20_9] at hP | rw [if_pos (Decidable.not_not.1 h20_9)] at hP | skip
          refine SPL_nil ?_
          refine thenP_n ?_
          refine SP_cond_f rfl ?_
          refine SP_skip ?_
          refine thenP_n ?_
          rw [if_neg (by omega)] at hP
          obtain ⟨ca, cc, ha, hc, s0, s1, s2, s3, s4, R, hsE, hstk, hputR⟩ := isRm_run hM3
          rw [hsE]
          refine SP_openAt [blk x.b 142 [ptr x.nb, ptr x.tb, Value.slice x.na m3.nodes.length x.nc, I m3.root, Value.slice ca m3.clos.length cc, Value.slice ha m3.ths.length hc, I s0, I s1, I s2, I s3, I s4, I m3.sp, I m3.cur, I m3.fuel, I m3.first, S m3.out, .bool m3.done, I m3.ans.e, I m3.ans.n, I m3.ans.m, S m3.ans.s, S m3.ans.t], R] (by first | exact P0 | exact P1 | exact P2 | exact P3 | exact P4 | exact P5 | exact P6 | exact P7 | exact P8 | exact P9 | exact P10 | exact P11 | exact P12 | exact P13 | exact P14 | exact P15 | exact P16 | exact P17 | exact P18 | exact P19 | exact P20 | exact P21 | exact P22 | exact P23) ?_
          simp only [List.cons_append, List.nil_append]
          refine SP_region ?_
          refine SPL_y (y_move rfl) rfl ?_
          refine SPL_y (y_move rfl) rfl ?_
          refine SPL_y (y_nil rfl) rfl ?_
          refine SPL_y (y_fa fld_142_11 rfl) rfl ?_
          refine SPL_y (y_load Tryz.isAgg9 rfl (by repeat (first | exact Cell.amid hpre rfl | exact Cell.head rfl | apply Cell.tail))) rfl ?_
          refine SPL_y (y_move rfl) rfl ?_
          refine SPL_y (y_cat rfl rfl (by first | omega | (simp; omega))) rfl ?_
          refine SPL_y (y_cat rfl rfl (by first | omega | (simp; omega))) rfl ?_
          refine SPL_y (y_nil rfl) rfl ?_
          refine SPL_y (y_fa fld_142_11 rfl) rfl ?_
          refine SPL_one rfl (SP1_store Tryz.sizeOf9 rfl rfl rfl (by first | exact U0 | exact U1 | exact U2 | exact U3 | exact U4 | exact U5 | exact U6 | exact U7 | exact U8 | exact U9 | exact U10 | exact U11 | exact U12 | exact U13 | exact U14 | exact U15 | exact U16 | exact U17 | exact U18 | exact U19 | exact U20 | exact U21 | exact U22 | exact U23) (by rfl) ?_)
          refine SPL_nil ?_
          refine inBlockP_n ?_
          refine thenP_n ?_
          exact Mid.intro ((V.nil, V.nil, eb, hb, { m3 with out := m3.out ++ l ++ [10] }, List.flatten [blk x.b 142 [ptr x.nb, ptr x.tb, Value.slice x.na m3.nodes.length x.nc, I m3.root, Value.slice ca m3.clos.length cc, Value.slice ha m3.ths.length hc, I s0, I s1, I s2, I s3, I s4, I m3.sp, I m3.cur, I m3.fuel, I m3.first, S (m3.out ++ l ++ [10]), .bool m3.done, I m3.ans.e, I m3.ans.n, I m3.ans.m, S m3.ans.s, S m3.ans.t], R])) (⟨Gr.refl _ _, hputR { m3 with out := m3.out ++ l ++ [10] } s0 s1 s2 s3 s4 rfl rfl rfl rfl rfl rfl hstk, hP⟩) (by repeat (first | exact Sub.nil _ | refine Sub.cons rfl ?_)) (by repeat (first | exact Part.nil _ | (apply Part.cons; with_reducible (first | exact P0 | exact P1 | exact P2 | exact P3 | exact P4 | exact P5 | exact P6 | exact P7 | exact P8 | exact P9 | exact P10 | exact P11 | exact P12 | exact P13 | exact P14 | exact P15 | exact P16 | exact P17 | exact P18 | exact P19 | exact P20 | exact P21 | exact P22 | exact P23)) | (apply Part.flat; simp only [List.cons_append, List.nil_append]) | (apply Part.cons; (first | exact P0 | exact P1 | exact P2 | exact P3 | exact P4 | exact P5 | exact P6 | exact P7 | exact P8 | exact P9 | exact P10 | exact P11 | exact P12 | exact P13 | exact P14 | exact P15 | exact P16 | exact P17 | exact P18 | exact P19 | exact P20 | exact P21 | exact P22 | exact P23)) | (apply Part.nilc)))
        intro h18_0
        first | rw [if_neg h18_0] at hP | rw [if_pos (Decidable.not_not.1 h18_0)] at hP | skip
        refine SPL_y (y_assign rfl) rfl ?_
        refine SPL_nil ?_
        refine thenP_n ?_
        refine SP_cond_f rfl ?_
        refine SP_seq ?_
        refine SP_region ?_
        refine SPL_if (y_eql rfl rfl) rfl ?_ ?_
        · intro h23_0
          first | rw [if_pos h23_0] at hP | rw [if_neg h23_0] at hP | skip
          refine SPL_y (y_assign rfl) rfl ?_
          refine SPL_nil ?_
          refine thenP_n ?_
          refine SP_cond_t rfl ?_
          refine SP_seq ?_
          obtain ⟨l, hql, hP⟩ := bnd1 hP
          refine SP_draw 5 [(0, 0), (1, 0), (2, 0), (3, 1), (4, 1), (5, 3), (6, 0)] mixed (by kernel_rfl) (fun _ _ _ _ _ h => h) (Part.refl _) ?_
          refine SPO_p rfl (y_move rfl) rfl ?_
          refine SPO_p rfl (y_nil rfl) rfl ?_
          refine SPO_p rfl (y_fa fld_142_0 rfl) rfl ?_
          refine SPO_h rfl (y_load Tryz.isAgg78 rfl (by repeat (first | exact hM3.cNum _ | apply Cell.tail))) rfl ?_
          refine SPO_h rfl (y_loads Tryz.isAgg42 Tryz.sizeOf42 rfl rfl (by repeat (first | exact Cells.all _ | exact Cells.amid hpre rfl (by decide) | exact Cells.head rfl | apply Cells.tail))) rfl ?_
          refine SPO_z (k := 0) rfl rfl (SP1_call (cm_Text _ z0 hql) Tryz.call168 rfl rfl (by repeat (first | exact Part.nil _ | (apply Part.cons; with_reducible (first | exact P0 | exact P1 | exact P2 | exact P3 | exact P4 | exact P5 | exact P6 | exact P7 | exact P8 | exact P9 | exact P10 | exact P11 | exact P12 | exact P13 | exact P14 | exact P15 | exact P16 | exact P17 | exact P18 | exact P19 | exact P20 | exact P21 | exact P22 | exact P23)) | (apply Part.flat; simp only [List.cons_append, List.nil_append]) | (apply Part.cons; (first | exact P0 | exact P1 | exact P2 | exact P3 | exact P4 | exact P5 | exact P6 | exact P7 | exact P8 | exact P9 | exact P10 | exact P11 | exact P12 | exact P13 | exact P14 | exact P15 | exact P16 | exact P17 | exact P18 | exact P19 | exact P20 | exact P21 | exact P22 | exact P23)) | (apply Part.nilc))) ?_)
          rintro v post H' ⟨rfl, rfl⟩ hH
          try simp only [List.cons_append, List.nil_append] at hH
          subst hH
          refine SPO_p rfl (y_assign rfl) rfl ?_
          refine SPO_nil ?_
          refine thenP_n ?_
          refine SP_region ?_
          refine SPL_y (y_move rfl) rfl ?_
          refine SPL_y (y_build B42 rfl rfl (by simp only [fillL, List.foldl_cons, List.foldl_nil, List.set_cons_zero, List.set_cons_succ]; exact rfl)) rfl ?_
          refine SPL_one rfl (SP1_storeAll Tryz.sizeOf42 rfl rfl rfl rfl rfl (by first | exact U0 | exact U1 | exact U2 | exact U3 | exact U4 | exact U5 | exact U6 | exact U7 | exact U8 | exact U9 | exact U10 | exact U11 | exact U12 | exact U13 | exact U14 | exact U15 | exact U16 | exact U17 | exact U18 | exact U19 | exact U20 | exact U21 | exact U22 | exact U23) (by rfl) ?_)
          refine SPL_nil ?_
          refine inBlockP_n ?_
          refine thenP_n ?_
          exact Mid.intro ((strK l, V.nil, eb, hb, m3, sg3)) (⟨Gr.refl _ _, hM3, hP⟩) (by repeat (first | exact Sub.nil _ | refine Sub.cons rfl ?_)) (by repeat (first | exact Part.nil _ | (apply Part.cons; with_reducible (first | exact P0 | exact P1 | exact P2 | exact P3 | exact P4 | exact P5 | exact P6 | exact P7 | exact P8 | exact P9 | exact P10 | exact P11 | exact P12 | exact P13 | exact P14 | exact P15 | exact P16 | exact P17 | exact P18 | exact P19 | exact P20 | exact P21 | exact P22 | exact P23)) | (apply Part.flat; simp only [List.cons_append, List.nil_append]) | (apply Part.cons; (first | exact P0 | exact P1 | exact P2 | exact P3 | exact P4 | exact P5 | exact P6 | exact P7 | exact P8 | exact P9 | exact P10 | exact P11 | exact P12 | exact P13 | exact P14 | exact P15 | exact P16 | exact P17 | exact P18 | exact P19 | exact P20 | exact P21 | exact P22 | exact P23)) | (apply Part.nilc)))
        intro h23_0
        first | rw [if_neg h23_0] at hP | rw [if_pos (Decidable.not_not.1 h23_0)] at hP | skip
        refine SPL_y (y_assign rfl) rfl ?_
        refine SPL_nil ?_
        refine thenP_n ?_
        refine SP_cond_f rfl ?_
        refine SP_seq ?_
        refine SP_region ?_
        refine SPL_if (y_eql rfl rfl) rfl ?_ ?_
        · intro h26_0
          first | rw [if_pos h26_0] at hP | rw [if_neg h26_0] at hP | skip
          refine SPL_y (y_assign rfl) rfl ?_
          refine SPL_nil ?_
          refine thenP_n ?_
          refine SP_cond_t rfl ?_
          refine SP_seq ?_
          unfold rtonum at hP
          refine SP_region ?_
          refine SPL_y (y_fa fld_42_0 rfl) rfl ?_
          refine SPL_y (y_load Tryz.isAgg3 rfl (by repeat (first | exact Cell.amid hpre rfl | exact Cell.head rfl | apply Cell.tail))) rfl ?_
          refine SPL_if (y_eql rfl rfl) rfl ?_ ?_
          · intro h27_2
            first | rw [if_pos h27_2] at hP | rw [if_neg h27_2] at hP | skip
            refine SPL_nil ?_
            refine thenP_n ?_
            refine SP_cond_t rfl ?_
            refine SP_region ?_
            refine SPL_y (y_loads Tryz.isAgg42 Tryz.sizeOf42 rfl rfl (by repeat (first | exact Cells.all _ | exact Cells.amid hpre rfl (by decide) | exact Cells.head rfl | apply Cells.tail))) rfl ?_
            refine SPL_one rfl (SP1_storeAll Tryz.sizeOf42 rfl rfl rfl rfl rfl (by first | exact U0 | exact U1 | exact U2 | exact U3 | exact U4 | exact U5 | exact U6 | exact U7 | exact U8 | exact U9 | exact U10 | exact U11 | exact U12 | exact U13 | exact U14 | exact U15 | exact U16 | exact U17 | exact U18 | exact U19 | exact U20 | exact U21 | exact U22 | exact U23) (by rfl) ?_)
            refine SPL_nil ?_
            refine inBlockP_n ?_
            refine thenP_n ?_
            exact Mid.intro ((z0, V.nil, eb, hb, m3, sg3)) (⟨Gr.refl _ _, hM3, hP⟩) (by repeat (first | exact Sub.nil _ | refine Sub.cons rfl ?_)) (by repeat (first | exact Part.nil _ | (apply Part.cons; with_reducible (first | exact P0 | exact P1 | exact P2 | exact P3 | exact P4 | exact P5 | exact P6 | exact P7 | exact P8 | exact P9 | exact P10 | exact P11 | exact P12 | exact P13 | exact P14 | exact P15 | exact P16 | exact P17 | exact P18 | exact P19 | exact P20 | exact P21 | exact P22 | exact P23)) | (apply Part.flat; simp only [List.cons_append, List.nil_append]) | (apply Part.cons; (first | exact P0 | exact P1 | exact P2 | exact P3 | exact P4 | exact P5 | exact P6 | exact P7 | exact P8 | exact P9 | exact P10 | exact P11 | exact P12 | exact P13 | exact P14 | exact P15 | exact P16 | exact P17 | exact P18 | exact P19 | exact P20 | exact P21 | exact P22 | exact P23)) | (apply Part.nilc)))
          intro h27_2
          first | rw [if_neg h27_2] at hP | rw [if_pos (Decidable.not_not.1 h27_2)] at hP | skip
          refine SPL_nil ?_
          refine thenP_n ?_
          refine SP_cond_f rfl ?_
          refine SP_seq ?_
          refine SP_region ?_
          refine SPL_y (y_fa fld_42_0 rfl) rfl ?_
          refine SPL_y (y_load Tryz.isAgg3 rfl (by repeat (first | exact Cell.amid hpre rfl | exact Cell.head rfl | apply Cell.tail))) rfl ?_
          refine SPL_ifn (y_eql rfl rfl) rfl ?_ ?_
          · intro h29_2
            first | rw [if_neg h29_2] at hP | rw [if_pos (Decidable.not_not.1 h29_2)] at hP | skip
            refine SPL_nil ?_
            refine thenP_n ?_
            refine SP_cond_f rfl ?_
            refine SP_skip ?_
            refine inBlockP_n ?_
            refine thenP_n ?_
            exact Mid.intro ((V.nil, V.nil, eb, hb, m3, sg3)) (⟨Gr.refl _ _, hM3, hP⟩) (by repeat (first | exact Sub.nil _ | refine Sub.cons rfl ?_)) (by repeat (first | exact Part.nil _ | (apply Part.cons; with_reducible (first | exact P0 | exact P1 | exact P2 | exact P3 | exact P4 | exact P5 | exact P6 | exact P7 | exact P8 | exact P9 | exact P10 | exact P11 | exact P12 | exact P13 | exact P14 | exact P15 | exact P16 | exact P17 | exact P18 | exact P19 | exact P20 | exact P21 | exact P22 | exact P23)) | (apply Part.flat; simp only [List.cons_append, List.nil_append]) | (apply Part.cons; (first | exact P0 | exact P1 | exact P2 | exact P3 | exact P4 | exact P5 | exact P6 | exact P7 | exact P8 | exact P9 | exact P10 | exact P11 | exact P12 | exact P13 | exact P14 | exact P15 | exact P16 | exact P17 | exact P18 | exact P19 | exact P20 | exact P21 | exact P22 | exact P23)) | (apply Part.nilc)))
          intro h29_2
          first | rw [if_pos h29_2] at hP | rw [if_neg h29_2] at hP | skip
          refine SPL_nil ?_
          refine thenP_n ?_
          refine SP_cond_t rfl ?_
          refine SP_seq ?_
          have hsl : z0.s.length ≤ 1000000 := Decidable.byContradiction fun q => by rw [if_pos q] at hP; cases hP
          rw [if_neg (fun q => q hsl)] at hP
          refine SP_draw 6 [(0, 0), (1, 0), (2, 0), (4, 0), (3, 1), (5, 1), (6, 3), (7, 0), (8, 0), (9, 0), (10, 0), (11, 0)] mixed (by kernel_rfl) (fun _ _ _ _ _ h => h) (Part.refl _) ?_
          refine SPO_p rfl (y_move rfl) rfl ?_
          refine SPO_p rfl (y_nil rfl) rfl ?_
          refine SPO_p rfl (y_fa fld_142_0 rfl) rfl ?_
          refine SPO_p rfl (y_fa fld_42_2 rfl) rfl ?_
          refine SPO_h rfl (y_load Tryz.isAgg78 rfl (by repeat (first | exact hM3.cNum _ | apply Cell.tail))) rfl ?_
          refine SPO_h rfl (y_load Tryz.isAgg9 rfl (by repeat (first | exact Cell.amid hpre rfl | exact Cell.head rfl | apply Cell.tail))) rfl ?_
          refine SPO_z (k := 0) rfl rfl (SP1_call (nm_Parse _ z0.s hsl) Tryz.call152 rfl rfl (by repeat (first | exact Part.nil _ | (apply Part.cons; with_reducible (first | exact P0 | exact P1 | exact P2 | exact P3 | exact P4 | exact P5 | exact P6 | exact P7 | exact P8 | exact P9 | exact P10 | exact P11 | exact P12 | exact P13 | exact P14 | exact P15 | exact P16 | exact P17 | exact P18 | exact P19 | exact P20 | exact P21 | exact P22 | exact P23)) | (apply Part.flat; simp only [List.cons_append, List.nil_append]) | (apply Part.cons; (first | exact P0 | exact P1 | exact P2 | exact P3 | exact P4 | exact P5 | exact P6 | exact P7 | exact P8 | exact P9 | exact P10 | exact P11 | exact P12 | exact P13 | exact P14 | exact P15 | exact P16 | exact P17 | exact P18 | exact P19 | exact P20 | exact P21 | exact P22 | exact P23)) | (apply Part.nilc))) ?_)
          rintro v post H' ⟨rfl, rfl⟩ hH
          try simp only [List.cons_append, List.nil_append] at hH
          subst hH
          refine SPO_p rfl (y_move rfl) rfl ?_
          refine SPO_p rfl (y_ext rfl rfl) rfl ?_
          refine SPO_p rfl (y_ext rfl rfl) rfl ?_
          refine SPO_p rfl (y_assign rfl) rfl ?_
          refine SPO_p rfl (y_assign rfl) rfl ?_
          refine SPO_nil ?_
          refine thenP_n ?_
          refine SP_seq ?_
          refine SP_region ?_
          refine SPL_y (y_move rfl) rfl ?_
          refine SPL_ifn (y_eql rfl rfl) rfl ?_ ?_
          · intro h31_1
            first | rw [if_neg h31_1] at hP | rw [if_pos (Decidable.not_not.1 h31_1)] at hP | skip
            refine SPL_nil ?_
            refine thenP_n ?_
            refine SP_cond_f rfl ?_
            refine SP_skip ?_
            refine inBlockP_n ?_
            refine thenP_n ?_
            exact Mid.intro ((V.nil, V.nil, eb, hb, m3, sg3)) (⟨Gr.refl _ _, hM3, hP⟩) (by repeat (first | exact Sub.nil _ | refine Sub.cons rfl ?_)) (by repeat (first | exact Part.nil _ | (apply Part.cons; with_reducible (first | exact P0 | exact P1 | exact P2 | exact P3 | exact P4 | exact P5 | exact P6 | exact P7 | exact P8 | exact P9 | exact P10 | exact P11 | exact P12 | exact P13 | exact P14 | exact P15 | exact P16 | exact P17 | exact P18 | exact P19 | exact P20 | exact P21 | exact P22 | exact P23)) | (apply Part.flat; simp only [List.cons_append, List.nil_append]) | (apply Part.cons; (first | exact P0 | exact P1 | exact P2 | exact P3 | exact P4 | exact P5 | exact P6 | exact P7 | exact P8 | exact P9 | exact P10 | exact P11 | exact P12 | exact P13 | exact P14 | exact P15 | exact P16 | exact P17 | exact P18 | exact P19 | exact P20 | exact P21 | exact P22 | exact P23)) | (apply Part.nilc)))
          intro h31_1
          first | rw [if_pos h31_1] at hP | rw [if_neg h31_1] at hP | skip
          refine SPL_nil ?_
          refine thenP_n ?_
          refine SP_cond_t rfl ?_
          refine SP_region ?_
          refine SPL_y (y_move rfl) rfl ?_
          refine SPL_y (y_build B42 rfl rfl (by simp only [fillL, List.foldl_cons, List.foldl_nil, List.set_cons_zero, List.set_cons_succ]; exact rfl)) rfl ?_
          refine SPL_one rfl (SP1_storeAll Tryz.sizeOf42 rfl rfl rfl rfl rfl (by first | exact U0 | exact U1 | exact U2 | exact U3 | exact U4 | exact U5 | exact U6 | exact U7 | exact U8 | exact U9 | exact U10 | exact U11 | exact U12 | exact U13 | exact U14 | exact U15 | exact U16 | exact U17 | exact U18 | exact U19 | exact U20 | exact U21 | exact U22 | exact U23) (by rfl) ?_)
          refine SPL_nil ?_
          refine inBlockP_n ?_
          refine thenP_n ?_
          exact Mid.intro ((⟨2, ((parseW z0.s).1 : Nat), []⟩, V.nil, eb, hb, m3, sg3)) (⟨Gr.refl _ _, hM3, hP⟩) (by repeat (first | exact Sub.nil _ | refine Sub.cons rfl ?_)) (by repeat (first | exact Part.nil _ | (apply Part.cons; with_reducible (first | exact P0 | exact P1 | exact P2 | exact P3 | exact P4 | exact P5 | exact P6 | exact P7 | exact P8 | exact P9 | exact P10 | exact P11 | exact P12 | exact P13 | exact P14 | exact P15 | exact P16 | exact P17 | exact P18 | exact P19 | exact P20 | exact P21 | exact P22 | exact P23)) | (apply Part.flat; simp only [List.cons_append, List.nil_append]) | (apply Part.cons; (first | exact P0 | exact P1 | exact P2 | exact P3 | exact P4 | exact P5 | exact P6 | exact P7 | exact P8 | exact P9 | exact P10 | exact P11 | exact P12 | exact P13 | exact P14 | exact P15 | exact P16 | exact P17 | exact P18 | exact P19 | exact P20 | exact P21 | exact P22 | exact P23)) | (apply Part.nilc)))
        intro h26_0
        first | rw [if_neg h26_0] at hP | rw [if_pos (Decidable.not_not.1 h26_0)] at hP | skip
        refine SPL_y (y_assign rfl) rfl ?_
        refine SPL_nil ?_
        refine thenP_n ?_
        refine SP_cond_f rfl ?_
        refine SP_seq ?_
        refine SP_region ?_
        refine SPL_if (y_eql rfl rfl) rfl ?_ ?_
        · intro h33_0
          first | rw [if_pos h33_0] at hP | rw [if_neg h33_0] at hP | skip
          refine SPL_y (y_assign rfl) rfl ?_
          refine SPL_nil ?_
          refine thenP_n ?_
          refine SP_cond_t rfl ?_
          refine SP_seq ?_
          refine SP_region ?_
          refine SPL_y (y_loads Tryz.isAgg42 Tryz.sizeOf42 rfl rfl (by repeat (first | exact Cells.all _ | exact Cells.amid hpre rfl (by decide) | exact Cells.head rfl | apply Cells.tail))) rfl ?_
          refine SPL_one rfl (SP1_call (api_TypeName z0) Tryz.call169 rfl rfl (by repeat (first | exact Part.nil _ | (apply Part.cons; with_reducible (first | exact P0 | exact P1 | exact P2 | exact P3 | exact P4 | exact P5 | exact P6 | exact P7 | exact P8 | exact P9 | exact P10 | exact P11 | exact P12 | exact P13 | exact P14 | exact P15 | exact P16 | exact P17 | exact P18 | exact P19 | exact P20 | exact P21 | exact P22 | exact P23)) | (apply Part.flat; simp only [List.cons_append, List.nil_append]) | (apply Part.cons; (first | exact P0 | exact P1 | exact P2 | exact P3 | exact P4 | exact P5 | exact P6 | exact P7 | exact P8 | exact P9 | exact P10 | exact P11 | exact P12 | exact P13 | exact P14 | exact P15 | exact P16 | exact P17 | exact P18 | exact P19 | exact P20 | exact P21 | exact P22 | exact P23)) | (apply Part.nilc))) ?_)
          rintro v post H' ⟨rfl, rfl⟩ hH
          try simp only [List.cons_append, List.nil_append] at hH
          subst hH
          refine SPL_y (y_assign rfl) rfl ?_
          refine SPL_nil ?_
          refine thenP_n ?_
          refine SP_region ?_
          refine SPL_y (y_move rfl) rfl ?_
          refine SPL_y (y_build B42 rfl rfl (by simp only [fillL, List.foldl_cons, List.foldl_nil, List.set_cons_zero, List.set_cons_succ]; exact rfl)) rfl ?_
          refine SPL_one rfl (SP1_storeAll Tryz.sizeOf42 rfl rfl rfl rfl rfl (by first | exact U0 | exact U1 | exact U2 | exact U3 | exact U4 | exact U5 | exact U6 | exact U7 | exact U8 | exact U9 | exact U10 | exact U11 | exact U12 | exact U13 | exact U14 | exact U15 | exact U16 | exact U17 | exact U18 | exact U19 | exact U20 | exact U21 | exact U22 | exact U23) (by rfl) ?_)
          refine SPL_nil ?_
          refine inBlockP_n ?_
          refine thenP_n ?_
          exact Mid.intro ((strK (typeName z0.t), V.nil, eb, hb, m3, sg3)) (⟨Gr.refl _ _, hM3, hP⟩) (by repeat (first | exact Sub.nil _ | refine Sub.cons rfl ?_)) (by repeat (first | exact Part.nil _ | (apply Part.cons; with_reducible (first | exact P0 | exact P1 | exact P2 | exact P3 | exact P4 | exact P5 | exact P6 | exact P7 | exact P8 | exact P9 | exact P10 | exact P11 | exact P12 | exact P13 | exact P14 | exact P15 | exact P16 | exact P17 | exact P18 | exact P19 | exact P20 | exact P21 | exact P22 | exact P23)) | (apply Part.flat; simp only [List.cons_append, List.nil_append]) | (apply Part.cons; (first | exact P0 | exact P1 | exact P2 | exact P3 | exact P4 | exact P5 | exact P6 | exact P7 | exact P8 | exact P9 | exact P10 | exact P11 | exact P12 | exact P13 | exact P14 | exact P15 | exact P16 | exact P17 | exact P18 | exact P19 | exact P20 | exact P21 | exact P22 | exact P23)) | (apply Part.nilc)))
        intro h33_0
        first | rw [if_neg h33_0] at hP | rw [if_pos (Decidable.not_not.1 h33_0)] at hP | skip
        refine SPL_y (y_assign rfl) rfl ?_
        refine SPL_nil ?_
        refine thenP_n ?_
        refine SP_cond_f rfl ?_
        refine SP_seq ?_
        refine SP_region ?_
        refine SPL_if (y_eql rfl rfl) rfl ?_ ?_
        · intro h36_0
          first | rw [if_pos h36_0] at hP | rw [if_neg h36_0] at hP | skip
          refine SPL_y (y_assign rfl) rfl ?_
          refine SPL_nil ?_
          refine thenP_n ?_
          refine SP_cond_t rfl ?_
          refine SP_seq ?_
          refine SP_region ?_
          refine SPL_y (y_move rfl) rfl ?_
          refine SPL_y (y_loads Tryz.isAgg42 Tryz.sizeOf42 rfl rfl (by repeat (first | exact Cells.all _ | exact Cells.amid hpre rfl (by decide) | exact Cells.head rfl | apply Cells.tail))) rfl ?_
          refine SPL_one rfl (SP1_call (cm_throw x eb hb z0 hP _ hM3) Tryz.call160 rfl rfl (by repeat (first | exact Part.nil _ | (apply Part.cons; with_reducible (first | exact P0 | exact P1 | exact P2 | exact P3 | exact P4 | exact P5 | exact P6 | exact P7 | exact P8 | exact P9 | exact P10 | exact P11 | exact P12 | exact P13 | exact P14 | exact P15 | exact P16 | exact P17 | exact P18 | exact P19 | exact P20 | exact P21 | exact P22 | exact P23)) | (apply Part.flat; simp only [List.cons_append, List.nil_append]) | (apply Part.cons; (first | exact P0 | exact P1 | exact P2 | exact P3 | exact P4 | exact P5 | exact P6 | exact P7 | exact P8 | exact P9 | exact P10 | exact P11 | exact P12 | exact P13 | exact P14 | exact P15 | exact P16 | exact P17 | exact P18 | exact P19 | exact P20 | exact P21 | exact P22 | exact P23)) | (apply Part.nilc))) ?_)
          rintro v post H' ⟨rfl, sg9, hM9, rfl⟩ hH
          try simp only [List.cons_append, List.nil_append] at hH
          subst hH
          refine SPL_nil ?_
          refine thenP_n ?_
          refine SP_ret ?_
          refine inBlockP_ret (thenP_ret (bodyP_ret (H' := [sg9]) (Res0 rfl) (by repeat (first | exact Part.nil _ | (apply Part.cons; with_reducible (first | exact P0 | exact P1 | exact P2 | exact P3 | exact P4 | exact P5 | exact P6 | exact P7 | exact P8 | exact P9 | exact P10 | exact P11 | exact P12 | exact P13 | exact P14 | exact P15 | exact P16 | exact P17 | exact P18 | exact P19 | exact P20 | exact P21 | exact P22 | exact P23)) | (apply Part.flat; simp only [List.cons_append, List.nil_append]) | (apply Part.cons; (first | exact P0 | exact P1 | exact P2 | exact P3 | exact P4 | exact P5 | exact P6 | exact P7 | exact P8 | exact P9 | exact P10 | exact P11 | exact P12 | exact P13 | exact P14 | exact P15 | exact P16 | exact P17 | exact P18 | exact P19 | exact P20 | exact P21 | exact P22 | exact P23)) | (apply Part.nilc))) ?_))
          exact ⟨rfl, eb, hb, _, Gr.refl _ _, hM9, rfl⟩
        intro h36_0
        first | rw [if_neg h36_0] at hP | rw [if_pos (Decidable.not_not.1 h36_0)] at hP | skip
        refine SPL_y (y_assign rfl) rfl ?_
        refine SPL_nil ?_
        refine thenP_n ?_
        refine SP_cond_f rfl ?_
        refine SP_seq ?_
        refine SP_region ?_
        refine SPL_if (y_eql rfl rfl) rfl ?_ ?_
        · intro h38_0
          first | rw [if_pos h38_0] at hP | rw [if_neg h38_0] at hP | skip
          refine SPL_y (y_assign rfl) rfl ?_
          refine SPL_nil ?_
          refine thenP_n ?_
          refine SP_cond_t rfl ?_
          refine SP_seq ?_
          unfold rpcall at hP
          rw [if_neg (fun q => q hg4.1), hth3] at hP
          refine SP_region ?_
          refine SPL_y (y_fa fld_42_0 rfl) rfl ?_
          refine SPL_y (y_load Tryz.isAgg3 rfl (by repeat (first | exact Cell.amid hpre rfl | exact Cell.head rfl | apply Cell.tail))) rfl ?_
          refine SPL_if (y_neq rfl rfl) rfl ?_ ?_
          · intro h39_2
            first | rw [if_pos h39_2] at hP | rw [if_neg h39_2] at hP | skip
            refine SPL_nil ?_
            refine thenP_n ?_
            refine SP_cond_t rfl ?_
            refine SP_seq ?_
            refine SP_region ?_
            refine SPL_y (y_build B42 rfl rfl (by simp only [fillL, List.foldl_cons, List.foldl_nil, List.set_cons_zero, List.set_cons_succ]; exact rfl)) rfl ?_
            refine SPL_one rfl (SP1_storeAll Tryz.sizeOf42 rfl rfl rfl rfl rfl (by first | exact U0 | exact U1 | exact U2 | exact U3 | exact U4 | exact U5 | exact U6 | exact U7 | exact U8 | exact U9 | exact U10 | exact U11 | exact U12 | exact U13 | exact U14 | exact U15 | exact U16 | exact U17 | exact U18 | exact U19 | exact U20 | exact U21 | exact U22 | exact U23) (by rfl) ?_)
            refine SPL_nil ?_
            refine thenP_n ?_
            refine SP_region ?_
            refine SPL_y (y_build B42 rfl rfl (by simp only [fillL, List.foldl_cons, List.foldl_nil, List.set_cons_zero, List.set_cons_succ]; exact rfl)) rfl ?_
            refine SPL_one rfl (SP1_storeAll Tryz.sizeOf42 rfl rfl rfl rfl rfl (by first | exact U0 | exact U1 | exact U2 | exact U3 | exact U4 | exact U5 | exact U6 | exact U7 | exact U8 | exact U9 | exact U10 | exact U11 | exact U12 | exact U13 | exact U14 | exact U15 | exact U16 | exact U17 | exact U18 | exact U19 | exact U20 | exact U21 | exact U22 | exact U23) (by rfl) ?_)
            refine SPL_nil ?_
            refine inBlockP_n ?_
            refine thenP_n ?_
            exact Mid.intro ((⟨1, 0, []⟩, strK [99, 97, 108, 108], eb, hb, m3, sg3)) (⟨Gr.refl _ _, hM3, hP⟩) (by repeat (first | exact Sub.nil _ | refine Sub.cons rfl ?_)) (by repeat (first | exact Part.nil _ | (apply Part.cons; with_reducible (first | exact P0 | exact P1 | exact P2 | exact P3 | exact P4 | exact P5 | exact P6 | exact P7 | exact P8 | exact P9 | exact P10 | exact P11 | exact P12 | exact P13 | exact P14 | exact P15 | exact P16 | exact P17 | exact P18 | exact P19 | exact P20 | exact P21 | exact P22 | exact P23)) | (apply Part.flat; simp only [List.cons_append, List.nil_append]) | (apply Part.cons; (first | exact P0 | exact P1 | exact P2 | exact P3 | exact P4 | exact P5 | exact P6 | exact P7 | exact P8 | exact P9 | exact P10 | exact P11 | exact P12 | exact P13 | exact P14 | exact P15 | exact P16 | exact P17 | exact P18 | exact P19 | exact P20 | exact P21 | exact P22 | exact P23)) | (apply Part.nilc)))
          intro h39_2
          first | rw [if_neg h39_2] at hP | rw [if_pos (Decidable.not_not.1 h39_2)] at hP | skip
          refine SPL_nil ?_
          refine thenP_n ?_
          refine SP_cond_f rfl ?_
          refine SP_seq ?_
          refine SP_region ?_
          refine SPL_y (y_move rfl) rfl ?_
          refine SPL_y (y_nil rfl) rfl ?_
          refine SPL_y (y_fa fld_152_2 rfl) rfl ?_
          refine SPL_y (y_load Tryz.isAgg3 rfl (by repeat (first | exact hTe3 _ | apply Cell.tail))) rfl ?_
          refine SPL_if (y_geq rfl rfl) rfl ?_ ?_
          · intro h42_4
            first | rw [if_pos h42_4] at hP | rw [if_neg h42_4] at hP | skip
            refine SPL_nil ?_
            refine thenP_n ?_
            refine SP_cond_t rfl ?_
            refine SP_seq ?_
            refine SP_region ?_
            refine SPL_y (y_build B42 rfl rfl (by simp only [fillL, List.foldl_cons, List.foldl_nil, List.set_cons_zero, List.set_cons_succ]; exact rfl)) rfl ?_
            refine SPL_one rfl (SP1_storeAll Tryz.sizeOf42 rfl rfl rfl rfl rfl (by first | exact U0 | exact U1 | exact U2 | exact U3 | exact U4 | exact U5 | exact U6 | exact U7 | exact U8 | exact U9 | exact U10 | exact U11 | exact U12 | exact U13 | exact U14 | exact U15 | exact U16 | exact U17 | exact U18 | exact U19 | exact U20 | exact U21 | exact U22 | exact U23) (by rfl) ?_)
            refine SPL_nil ?_
            refine thenP_n ?_
            refine SP_region ?_
            refine SPL_y (y_build B42 rfl rfl (by simp only [fillL, List.foldl_cons, List.foldl_nil, List.set_cons_zero, List.set_cons_succ]; exact rfl)) rfl ?_
            refine SPL_one rfl (SP1_storeAll Tryz.sizeOf42 rfl rfl rfl rfl rfl (by first | exact U0 | exact U1 | exact U2 | exact U3 | exact U4 | exact U5 | exact U6 | exact U7 | exact U8 | exact U9 | exact U10 | exact U11 | exact U12 | exact U13 | exact U14 | exact U15 | exact U16 | exact U17 | exact U18 | exact U19 | exact U20 | exact U21 | exact U22 | exact U23) (by rfl) ?_)
            refine SPL_nil ?_
            refine inBlockP_n ?_
            refine thenP_n ?_
            exact Mid.intro ((⟨1, 0, []⟩, strK [100, 101, 112, 116, 104], eb, hb, m3, sg3)) (⟨Gr.refl _ _, hM3, hP⟩) (by repeat (first | exact Sub.nil _ | refine Sub.cons rfl ?_)) (by repeat (first | exact Part.nil _ | (apply Part.cons; with_reducible (first | exact P0 | exact P1 | exact P2 | exact P3 | exact P4 | exact P5 | exact P6 | exact P7 | exact P8 | exact P9 | exact P10 | exact P11 | exact P12 | exact P13 | exact P14 | exact P15 | exact P16 | exact P17 | exact P18 | exact P19 | exact P20 | exact P21 | exact P22 | exact P23)) | (apply Part.flat; simp only [List.cons_append, List.nil_append]) | (apply Part.cons; (first | exact P0 | exact P1 | exact P2 | exact P3 | exact P4 | exact P5 | exact P6 | exact P7 | exact P8 | exact P9 | exact P10 | exact P11 | exact P12 | exact P13 | exact P14 | exact P15 | exact P16 | exact P17 | exact P18 | exact P19 | exact P20 | exact P21 | exact P22 | exact P23)) | (apply Part.nilc)))
          intro h42_4
          first | rw [if_neg h42_4] at hP | rw [if_pos (Decidable.not_not.1 h42_4)] at hP | skip
          refine SPL_nil ?_
          refine thenP_n ?_
          refine SP_cond_f rfl ?_
          refine SP_seq ?_
          have hak0 : 0 ≤ z0.n ∧ z0.n < 1000000 := Decidable.byContradiction fun q => by rw [if_neg q] at hP; cases hP
          rw [if_pos hak0] at hP
          obtain ⟨ak, hak⟩ : ∃ k : Nat, z0.n = k := ⟨z0.n.toNat, by omega⟩
          rw [hak] at hP
          refine SP_draw 5 [(0, 0), (1, 0), (4, 0), (2, 1), (3, 0), (5, 3)] mixed (by kernel_rfl) (fun _ _ _ _ _ h => h) (Part.refl _) ?_
          refine SPO_p rfl (y_move rfl) rfl ?_
          refine SPO_p rfl (y_fa fld_42_1 rfl) rfl ?_
          refine SPO_p rfl (y_arr_lh Tryz.underlying277 Tryz.sizeOf42 rfl rfl rfl (by decide)) rfl ?_
          refine SPO_h rfl (y_load Tryz.isAgg40 rfl (by repeat (first | exact Cell.amid hpre rfl | exact Cell.head rfl | apply Cell.tail))) rfl ?_
          refine SPO_p rfl (y_conv Tryz.underlying40 Tryz.underlying3 rfl (show IntKind.i64.wrap z0.n = ((ak : Nat) : Int) by rw [hak, IntKind.wrap_i64]; omega)) rfl ?_
          refine SPO_z (k := 0) rfl rfl (SP1_call (cm_enter x eb hb _ _ (argR1 b5 z0 z1 z2 2) hP _ hM3) Tryz.call64 rfl rfl (by repeat (first | exact Part.nil _ | (apply Part.cons; with_reducible (first | exact P0 | exact P1 | exact P2 | exact P3 | exact P4 | exact P5 | exact P6 | exact P7 | exact P8 | exact P9 | exact P10 | exact P11 | exact P12 | exact P13 | exact P14 | exact P15 | exact P16 | exact P17 | exact P18 | exact P19 | exact P20 | exact P21 | exact P22 | exact P23)) | (apply Part.flat; simp only [List.cons_append, List.nil_append]) | (apply Part.cons; (first | exact P0 | exact P1 | exact P2 | exact P3 | exact P4 | exact P5 | exact P6 | exact P7 | exact P8 | exact P9 | exact P10 | exact P11 | exact P12 | exact P13 | exact P14 | exact P15 | exact P16 | exact P17 | exact P18 | exact P19 | exact P20 | exact P21 | exact P22 | exact P23)) | (apply Part.nilc))) ?_)
          rintro v post H' ⟨rfl, ebE, sg9, hpreE, hM9, rfl⟩ hH
          try simp only [List.cons_append, List.nil_append] at hH
          subst hH
          refine SPO_nil ?_
          refine thenP_n ?_
          refine SP_ret ?_
          refine inBlockP_ret (thenP_ret (bodyP_ret (H' := [sg9]) (Res0 rfl) (by repeat (first | exact Part.nil _ | (apply Part.cons; with_reducible (first | exact P0 | exact P1 | exact P2 | exact P3 | exact P4 | exact P5 | exact P6 | exact P7 | exact P8 | exact P9 | exact P10 | exact P11 | exact P12 | exact P13 | exact P14 | exact P15 | exact P16 | exact P17 | exact P18 | exact P19 | exact P20 | exact P21 | exact P22 | exact P23)) | (apply Part.flat; simp only [List.cons_append, List.nil_append]) | (apply Part.cons; (first | exact P0 | exact P1 | exact P2 | exact P3 | exact P4 | exact P5 | exact P6 | exact P7 | exact P8 | exact P9 | exact P10 | exact P11 | exact P12 | exact P13 | exact P14 | exact P15 | exact P16 | exact P17 | exact P18 | exact P19 | exact P20 | exact P21 | exact P22 | exact P23)) | (apply Part.nilc))) ?_))
          exact ⟨rfl, ebE, hb, _, ⟨hpreE, List.prefix_refl _⟩, hM9, rfl⟩
        intro h38_0
        first | rw [if_neg h38_0] at hP | rw [if_pos (Decidable.not_not.1 h38_0)] at hP | skip
        refine SPL_y (y_assign rfl) rfl ?_
        refine SPL_nil ?_
        refine thenP_n ?_
        refine SP_cond_f rfl ?_
        refine SP_seq ?_
        refine SP_region ?_
        refine SPL_if (y_eql rfl rfl) rfl ?_ ?_
        · intro h46_0
          first | rw [if_pos h46_0] at hP | rw [if_neg h46_0] at hP | skip
          refine SPL_y (y_assign rfl) rfl ?_
          refine SPL_nil ?_
          refine thenP_n ?_
          refine SP_cond_t rfl ?_
          refine SP_seq ?_
          refine SP_seq ?_
          unfold rnext at hP
          refine SP_region ?_
          refine SPL_y (y_fa fld_42_0 rfl) rfl ?_
          refine SPL_y (y_load Tryz.isAgg3 rfl (by repeat (first | exact Cell.amid hpre rfl | exact Cell.head rfl | apply Cell.tail))) rfl ?_
          refine SPL_if (y_neq rfl rfl) rfl ?_ ?_
          · intro h47_2
            first | rw [if_pos h47_2] at hP | rw [if_neg h47_2] at hP | skip
            refine SPL_nil ?_
            refine thenP_n ?_
            refine SP_cond_t rfl ?_
            refine SP_seq ?_
            refine SP_region ?_
            refine SPL_y (y_move rfl) rfl ?_
            refine SPL_one rfl (SP1_call (cm_raise x eb hb hP _ hM3) Tryz.call104 rfl rfl (by repeat (first | exact Part.nil _ | (apply Part.cons; with_reducible (first | exact P0 | exact P1 | exact P2 | exact P3 | exact P4 | exact P5 | exact P6 | exact P7 | exact P8 | exact P9 | exact P10 | exact P11 | exact P12 | exact P13 | exact P14 | exact P15 | exact P16 | exact P17 | exact P18 | exact P19 | exact P20 | exact P21 | exact P22 | exact P23)) | (apply Part.flat; simp only [List.cons_append, List.nil_append]) | (apply Part.cons; (first | exact P0 | exact P1 | exact P2 | exact P3 | exact P4 | exact P5 | exact P6 | exact P7 | exact P8 | exact P9 | exact P10 | exact P11 | exact P12 | exact P13 | exact P14 | exact P15 | exact P16 | exact P17 | exact P18 | exact P19 | exact P20 | exact P21 | exact P22 | exact P23)) | (apply Part.nilc))) ?_)
            rintro v post H' ⟨rfl, sg9, hM9, rfl⟩ hH
            try simp only [List.cons_append, List.nil_append] at hH
            subst hH
            refine SPL_nil ?_
            refine thenP_n ?_
            refine SP_ret ?_
            refine thenP_ret (inBlockP_ret (thenP_ret (bodyP_ret (H' := [sg9]) (Res0 rfl) (by repeat (first | exact Part.nil _ | (apply Part.cons; with_reducible (first | exact P0 | exact P1 | exact P2 | exact P3 | exact P4 | exact P5 | exact P6 | exact P7 | exact P8 | exact P9 | exact P10 | exact P11 | exact P12 | exact P13 | exact P14 | exact P15 | exact P16 | exact P17 | exact P18 | exact P19 | exact P20 | exact P21 | exact P22 | exact P23)) | (apply Part.flat; simp only [List.cons_append, List.nil_append]) | (apply Part.cons; (first | exact P0 | exact P1 | exact P2 | exact P3 | exact P4 | exact P5 | exact P6 | exact P7 | exact P8 | exact P9 | exact P10 | exact P11 | exact P12 | exact P13 | exact P14 | exact P15 | exact P16 | exact P17 | exact P18 | exact P19 | exact P20 | exact P21 | exact P22 | exact P23)) | (apply Part.nilc))) ?_)))
            exact ⟨rfl, eb, hb, _, Gr.refl _ _, hM9, rfl⟩
          intro h47_2
          first | rw [if_neg h47_2] at hP | rw [if_pos (Decidable.not_not.1 h47_2)] at hP | skip
          refine SPL_nil ?_
          refine thenP_n ?_
          refine SP_cond_f rfl ?_
          refine SP_skip ?_
          refine thenP_n ?_
          refine SP_seq ?_
          have hg7 : tbOk m3 z0 ∧ numR z1 = true := Decidable.byContradiction fun q => by rw [if_pos q] at hP; cases hP
          rw [if_neg (fun q => q hg7)] at hP
          obtain ⟨⟨ht1, ht2, ht3⟩, hnr⟩ := hg7
          obtain ⟨ak, hak⟩ : ∃ k : Nat, z0.n = k := ⟨z0.n.toNat, by omega⟩
          have haj : ak < m3.ts.length := by omega
          rw [hak, Int.toNat_natCast] at hP ht3
          rw [getD_at haj] at ht3
          have hnr2 : 0 ≤ z1.n ∧ z1.n < 18446744073709551616 := of_decide_eq_true hnr
          obtain ⟨A, sB, hsE, hTm, hcT, hputT⟩ := isRm_tab hM3
          rw [hsE]
          refine SP_openAt [A, sB] (by first | exact P0 | exact P1 | exact P2 | exact P3 | exact P4 | exact P5 | exact P6 | exact P7 | exact P8 | exact P9 | exact P10 | exact P11 | exact P12 | exact P13 | exact P14 | exact P15 | exact P16 | exact P17 | exact P18 | exact P19 | exact P20 | exact P21 | exact P22 | exact P23) ?_
          simp only [List.cons_append, List.nil_append]
          refine SP_drawG 8 mixed (Part.refl _) ?_
          refine SPG_pre (fuel' := 10) [(0, 0), (1, 0), (2, 0), (4, 0), (3, 1), (5, 1), (6, 0), (7, 1)] (by kernel_rfl) (fun _ _ _ _ _ h => h) ?_
          refine SPP_p rfl (y_move rfl) rfl ?_
          refine SPP_p rfl (y_nil rfl) rfl ?_
          refine SPP_p rfl (y_fa fld_142_1 rfl) rfl ?_
          refine SPP_p rfl (y_fa fld_42_1 rfl) rfl ?_
          refine SPP_h rfl (y_load Tryz.isAgg80 rfl (by repeat (first | exact hcT _ | apply Cell.tail))) rfl ?_
          refine SPP_h rfl (y_load Tryz.isAgg40 rfl (by repeat (first | exact Cell.amid hpre rfl | exact Cell.head rfl | apply Cell.tail))) rfl ?_
          refine SPP_p rfl (y_conv Tryz.underlying40 Tryz.underlying3 rfl (show IntKind.i64.wrap z0.n = ((ak : Nat) : Int) by rw [hak, IntKind.wrap_i64]; omega)) rfl ?_
          refine SPP_h rfl (y_loads Tryz.isAgg42 Tryz.sizeOf42 rfl rfl (by repeat (first | exact Cells.all _ | exact Cells.amid hpre rfl (by decide) | exact Cells.head rfl | apply Cells.tail))) rfl ?_
          refine SPP_nil ?_
          refine SPG_three (i := 8) (j := 13) (k := 14) (by kernel_rfl) rfl rfl rfl rfl rfl rfl ?_ ?_ ?_
          · refine SP1_call (tm_Next x.tb x.nb m3.ts sB hTm ak haj ht2 ht3 z1 hnr2) Tryz.call108 rfl rfl (by repeat (first | exact Part.nil _ | (apply Part.cons; with_reducible (first | exact P0 | exact P1 | exact P2 | exact P3 | exact P4 | exact P5 | exact P6 | exact P7 | exact P8 | exact P9 | exact P10 | exact P11 | exact P12 | exact P13 | exact P14 | exact P15 | exact P16 | exact P17 | exact P18 | exact P19 | exact P20 | exact P21 | exact P22 | exact P23)) | (apply Part.flat; simp only [List.cons_append, List.nil_append]) | (apply Part.cons; (first | exact P0 | exact P1 | exact P2 | exact P3 | exact P4 | exact P5 | exact P6 | exact P7 | exact P8 | exact P9 | exact P10 | exact P11 | exact P12 | exact P13 | exact P14 | exact P15 | exact P16 | exact P17 | exact P18 | exact P19 | exact P20 | exact P21 | exact P22 | exact P23)) | (apply Part.nilc))) ?_
            rintro v post H' ⟨rfl, rfl⟩ hH
            try simp only [List.cons_append, List.nil_append] at hH
            subst hH
            refine ⟨fun h => absurd rfl h, ?_⟩
            refine SPG_pre (fuel' := 5) [(9, 0), (10, 0), (11, 0), (12, 0)] (by kernel_rfl) (fun _ _ _ _ _ h => h) ?_
            refine SPP_p rfl (y_move rfl) rfl ?_
            refine SPP_p rfl (y_ext rfl rfl) rfl ?_
            refine SPP_p rfl (y_ext rfl rfl) rfl ?_
            refine SPP_p rfl (y_ext rfl rfl) rfl ?_
            refine SPP_nil ?_
            refine SPG_twoL (i := 13) (j := 14) (by kernel_rfl) (by kernel_rfl) rfl rfl rfl rfl ?_ ?_
            · refine SP1_alloc Tryz.zeroValue42 rfl rfl ?_
              intro b17
              refine SPG_ord [(14, 3), (15, 3), (16, 3), (17, 0)] (by kernel_rfl) (fun _ _ _ _ _ h => h) ?_
              refine SPO_z (k := 0) rfl rfl (SP1_alloc Tryz.zeroValue42 rfl rfl ?_)
              intro b18
              refine SPO_z (k := 0) rfl rfl (SP1_storeAll Tryz.sizeOf42 rfl rfl rfl rfl rfl (by first | exact U0 | exact U1 | exact U2 | exact U3 | exact U4 | exact U5 | exact U6 | exact U7 | exact U8 | exact U9 | exact U10 | exact U11 | exact U12 | exact U13 | exact U14 | exact U15 | exact U16 | exact U17 | exact U18 | exact U19 | exact U20 | exact U21 | exact U22 | exact U23) (by rfl) ?_)
              refine SPO_z (k := 0) rfl rfl (SP1_storeAll Tryz.sizeOf42 rfl rfl rfl rfl rfl (by first | exact U0 | exact U1 | exact U2 | exact U3 | exact U4 | exact U5 | exact U6 | exact U7 | exact U8 | exact U9 | exact U10 | exact U11 | exact U12 | exact U13 | exact U14 | exact U15 | exact U16 | exact U17 | exact U18 | exact U19 | exact U20 | exact U21 | exact U22 | exact U23) (by rfl) ?_)
              refine SPO_p rfl (y_assign rfl) rfl ?_
              refine SPO_nil ?_
              refine thenP_n ?_
              refine SP_seq ?_
              refine SP_seq ?_
              refine SP_region ?_
              refine SPL_y (y_move rfl) rfl ?_
              refine SPL_if (y_neq rfl rfl) rfl ?_ ?_
              · intro h50_1
                first | rw [if_pos h50_1] at hP | rw [if_neg h50_1] at hP | skip
                refine SPL_nil ?_
                refine thenP_n ?_
                refine SP_cond_t rfl ?_
                refine SP_seq ?_
                try rw [if_pos h50_1] at hP
                refine SP_part (H' := [List.flatten [A, sB]]) (by repeat (first | exact Part.nil _ | (apply Part.cons; with_reducible (first | exact P0 | exact P1 | exact P2 | exact P3 | exact P4 | exact P5 | exact P6 | exact P7 | exact P8 | exact P9 | exact P10 | exact P11 | exact P12 | exact P13 | exact P14 | exact P15 | exact P16 | exact P17 | exact P18 | exact P19 | exact P20 | exact P21 | exact P22 | exact P23)) | (apply Part.flat; simp only [List.cons_append, List.nil_append]) | (apply Part.cons; (first | exact P0 | exact P1 | exact P2 | exact P3 | exact P4 | exact P5 | exact P6 | exact P7 | exact P8 | exact P9 | exact P10 | exact P11 | exact P12 | exact P13 | exact P14 | exact P15 | exact P16 | exact P17 | exact P18 | exact P19 | exact P20 | exact P21 | exact P22 | exact P23)) | (apply Part.nilc))) ?_
                rw [← hsE]
                refine SP_region ?_
                refine SPL_y (y_move rfl) rfl ?_
                refine SPL_one rfl (SP1_call (cm_raise x eb hb hP _ hM3) Tryz.call104 rfl rfl (by repeat (first | exact Part.nil _ | (apply Part.cons; with_reducible (first | exact P0 | exact P1 | exact P2 | exact P3 | exact P4 | exact P5 | exact P6 | exact P7 | exact P8 | exact P9 | exact P10 | exact P11 | exact P12 | exact P13 | exact P14 | exact P15 | exact P16 | exact P17 | exact P18 | exact P19 | exact P20 | exact P21 | exact P22 | exact P23)) | (apply Part.flat; simp only [List.cons_append, List.nil_append]) | (apply Part.cons; (first | exact P0 | exact P1 | exact P2 | exact P3 | exact P4 | exact P5 | exact P6 | exact P7 | exact P8 | exact P9 | exact P10 | exact P11 | exact P12 | exact P13 | exact P14 | exact P15 | exact P16 | exact P17 | exact P18 | exact P19 | exact P20 | exact P21 | exact P22 | exact P23)) | (apply Part.nilc))) ?_)
                rintro v post H' ⟨rfl, sg9, hM9, rfl⟩ hH
                try simp only [List.cons_append, List.nil_append] at hH
                subst hH
                refine SPL_nil ?_
                refine thenP_n ?_
                refine SP_ret ?_
                refine thenP_ret (inBlockP_ret (thenP_ret (bodyP_ret (H' := [sg9]) (Res0 rfl) (by repeat (first | exact Part.nil _ | (apply Part.cons; with_reducible (first | exact P0 | exact P1 | exact P2 | exact P3 | exact P4 | exact P5 | exact P6 | exact P7 | exact P8 | exact P9 | exact P10 | exact P11 | exact P12 | exact P13 | exact P14 | exact P15 | exact P16 | exact P17 | exact P18 | exact P19 | exact P20 | exact P21 | exact P22 | exact P23)) | (apply Part.flat; simp only [List.cons_append, List.nil_append]) | (apply Part.cons; (first | exact P0 | exact P1 | exact P2 | exact P3 | exact P4 | exact P5 | exact P6 | exact P7 | exact P8 | exact P9 | exact P10 | exact P11 | exact P12 | exact P13 | exact P14 | exact P15 | exact P16 | exact P17 | exact P18 | exact P19 | exact P20 | exact P21 | exact P22 | exact P23)) | (apply Part.nilc))) ?_)))
                exact ⟨rfl, eb, hb, _, Gr.refl _ _, hM9, rfl⟩
              intro h50_1
              first | rw [if_neg h50_1] at hP | rw [if_pos (Decidable.not_not.1 h50_1)] at hP | skip
              refine SPL_nil ?_
              refine thenP_n ?_
              refine SP_cond_f rfl ?_
              refine SP_skip ?_
              refine thenP_n ?_
              refine SP_seq ?_
              try rw [if_neg h50_1] at hP
              refine SP_region ?_
              refine SPL_y (y_loads Tryz.isAgg42 Tryz.sizeOf42 rfl rfl (by repeat (first | exact Cells.all _ | exact Cells.amid hpre rfl (by decide) | exact Cells.head rfl | apply Cells.tail))) rfl ?_
              refine SPL_one rfl (SP1_storeAll Tryz.sizeOf42 rfl rfl rfl rfl rfl (by first | exact U0 | exact U1 | exact U2 | exact U3 | exact U4 | exact U5 | exact U6 | exact U7 | exact U8 | exact U9 | exact U10 | exact U11 | exact U12 | exact U13 | exact U14 | exact U15 | exact U16 | exact U17 | exact U18 | exact U19 | exact U20 | exact U21 | exact U22 | exact U23) (by rfl) ?_)
              refine SPL_nil ?_
              refine thenP_n ?_
              refine SP_region ?_
              refine SPL_y (y_loads Tryz.isAgg42 Tryz.sizeOf42 rfl rfl (by repeat (first | exact Cells.all _ | exact Cells.amid hpre rfl (by decide) | exact Cells.head rfl | apply Cells.tail))) rfl ?_
              refine SPL_one rfl (SP1_storeAll Tryz.sizeOf42 rfl rfl rfl rfl rfl (by first | exact U0 | exact U1 | exact U2 | exact U3 | exact U4 | exact U5 | exact U6 | exact U7 | exact U8 | exact U9 | exact U10 | exact U11 | exact U12 | exact U13 | exact U14 | exact U15 | exact U16 | exact U17 | exact U18 | exact U19 | exact U20 | exact U21 | exact U22 | exact U23) (by rfl) ?_)
              refine SPL_nil ?_
              refine inBlockP_n ?_
              refine thenP_n ?_
              exact Mid.intro (((nextW m3.ts ak z1).1, (nextW m3.ts ak z1).2.1, eb, hb, m3, List.flatten [A, sB])) (⟨Gr.refl _ _, (by rw [← hsE]; exact hM3), hP⟩) (by repeat (first | exact Sub.nil _ | refine Sub.cons rfl ?_)) (by repeat (first | exact Part.nil _ | (apply Part.cons; with_reducible (first | exact P0 | exact P1 | exact P2 | exact P3 | exact P4 | exact P5 | exact P6 | exact P7 | exact P8 | exact P9 | exact P10 | exact P11 | exact P12 | exact P13 | exact P14 | exact P15 | exact P16 | exact P17 | exact P18 | exact P19 | exact P20 | exact P21 | exact P22 | exact P23)) | (apply Part.flat; simp only [List.cons_append, List.nil_append]) | (apply Part.cons; (first | exact P0 | exact P1 | exact P2 | exact P3 | exact P4 | exact P5 | exact P6 | exact P7 | exact P8 | exact P9 | exact P10 | exact P11 | exact P12 | exact P13 | exact P14 | exact P15 | exact P16 | exact P17 | exact P18 | exact P19 | exact P20 | exact P21 | exact P22 | exact P23)) | (apply Part.nilc)))
            refine SP1_alloc Tryz.zeroValue42 rfl rfl ?_
            intro b18
            refine SPG_ord [(13, 3), (15, 3), (16, 3), (17, 0)] (by kernel_rfl) (fun _ _ _ _ _ h => h) ?_
            refine SPO_z (k := 0) rfl rfl (SP1_alloc Tryz.zeroValue42 rfl rfl ?_)
            intro b17
            refine SPO_z (k := 0) rfl rfl (SP1_storeAll Tryz.sizeOf42 rfl rfl rfl rfl rfl (by first | exact U0 | exact U1 | exact U2 | exact U3 | exact U4 | exact U5 | exact U6 | exact U7 | exact U8 | exact U9 | exact U10 | exact U11 | exact U12 | exact U13 | exact U14 | exact U15 | exact U16 | exact U17 | exact U18 | exact U19 | exact U20 | exact U21 | exact U22 | exact U23) (by rfl) ?_)
            refine SPO_z (k := 0) rfl rfl (SP1_storeAll Tryz.sizeOf42 rfl rfl rfl rfl rfl (by first | exact U0 | exact U1 | exact U2 | exact U3 | exact U4 | exact U5 | exact U6 | exact U7 | exact U8 | exact U9 | exact U10 | exact U11 | exact U12 | exact U13 | exact U14 | exact U15 | exact U16 | exact U17 | exact U18 | exact U19 | exact U20 | exact U21 | exact U22 | exact U23) (by rfl) ?_)
            refine SPO_p rfl (y_assign rfl) rfl ?_
            refine SPO_nil ?_
            refine thenP_n ?_
            refine SP_seq ?_
            refine SP_seq ?_
            refine SP_region ?_
            refine SPL_y (y_move rfl) rfl ?_
            refine SPL_if (y_neq rfl rfl) rfl ?_ ?_
            · intro h50_1
              first | rw [if_pos h50_1] at hP | rw [if_neg h50_1] at hP | skip
              refine SPL_nil ?_
              refine thenP_n ?_
              refine SP_cond_t rfl ?_
              refine SP_seq ?_
              try rw [if_pos h50_1] at hP
              refine SP_part (H' := [List.flatten [A, sB]]) (by repeat (first | exact Part.nil _ | (apply Part.cons; with_reducible (first | exact P0 | exact P1 | exact P2 | exact P3 | exact P4 | exact P5 | exact P6 | exact P7 | exact P8 | exact P9 | exact P10 | exact P11 | exact P12 | exact P13 | exact P14 | exact P15 | exact P16 | exact P17 | exact P18 | exact P19 | exact P20 | exact P21 | exact P22 | exact P23)) | (apply Part.flat; simp only [List.cons_append, List.nil_append]) | (apply Part.cons; (first | exact P0 | exact P1 | exact P2 | exact P3 | exact P4 | exact P5 | exact P6 | exact P7 | exact P8 | exact P9 | exact P10 | exact P11 | exact P12 | exact P13 | exact P14 | exact P15 | exact P16 | exact P17 | exact P18 | exact P19 | exact P20 | exact P21 | exact P22 | exact P23)) | (apply Part.nilc))) ?_
              rw [← hsE]
              refine SP_region ?_
              refine SPL_y (y_move rfl) rfl ?_
              refine SPL_one rfl (SP1_call (cm_raise x eb hb hP _ hM3) Tryz.call104 rfl rfl (by repeat (first | exact Part.nil _ | (apply Part.cons; with_reducible (first | exact P0 | exact P1 | exact P2 | exact P3 | exact P4 | exact P5 | exact P6 | exact P7 | exact P8 | exact P9 | exact P10 | exact P11 | exact P12 | exact P13 | exact P14 | exact P15 | exact P16 | exact P17 | exact P18 | exact P19 | exact P20 | exact P21 | exact P22 | exact P23)) | (apply Part.flat; simp only [List.cons_append, List.nil_append]) | (apply Part.cons; (first | exact P0 | exact P1 | exact P2 | exact P3 | exact P4 | exact P5 | exact P6 | exact P7 | exact P8 | exact P9 | exact P10 | exact P11 | exact P12 | exact P13 | exact P14 | exact P15 | exact P16 | exact P17 | exact P18 | exact P19 | exact P20 | exact P21 | exact P22 | exact P23)) | (apply Part.nilc))) ?_)
              rintro v post H' ⟨rfl, sg9, hM9, rfl⟩ hH
              try simp only [List.cons_append, List.nil_append] at hH
              subst hH
              refine SPL_nil ?_
              refine thenP_n ?_
              refine SP_ret ?_
              refine thenP_ret (inBlockP_ret (thenP_ret (bodyP_ret (H' := [sg9]) (Res0 rfl) (by repeat (first | exact Part.nil _ | (apply Part.cons; with_reducible (first | exact P0 | exact P1 | exact P2 | exact P3 | exact P4 | exact P5 | exact P6 | exact P7 | exact P8 | exact P9 | exact P10 | exact P11 | exact P12 | exact P13 | exact P14 | exact P15 | exact P16 | exact P17 | exact P18 | exact P19 | exact P20 | exact P21 | exact P22 | exact P23)) | (apply Part.flat; simp only [List.cons_append, List.nil_append]) | (apply Part.cons; (first | exact P0 | exact P1 | exact P2 | exact P3 | exact P4 | exact P5 | exact P6 | exact P7 | exact P8 | exact P9 | exact P10 | exact P11 | exact P12 | exact P13 | exact P14 | exact P15 | exact P16 | exact P17 | exact P18 | exact P19 | exact P20 | exact P21 | exact P22 | exact P23)) | (apply Part.nilc))) ?_)))
              exact ⟨rfl, eb, hb, _, Gr.refl _ _, hM9, rfl⟩
            intro h50_1
            first | rw [if_neg h50_1] at hP | rw [if_pos (Decidable.not_not.1 h50_1)] at hP | skip
            refine SPL_nil ?_
            refine thenP_n ?_
            refine SP_cond_f rfl ?_
            refine SP_skip ?_
            refine thenP_n ?_
            refine SP_seq ?_
            try rw [if_neg h50_1] at hP
            refine SP_region ?_
            refine SPL_y (y_loads Tryz.isAgg42 Tryz.sizeOf42 rfl rfl (by repeat (first | exact Cells.all _ | exact Cells.amid hpre rfl (by decide) | exact Cells.head rfl | apply Cells.tail))) rfl ?_
            refine SPL_one rfl (SP1_storeAll Tryz.sizeOf42 rfl rfl rfl rfl rfl (by first | exact U0 | exact U1 | exact U2 | exact U3 | exact U4 | exact U5 | exact U6 | exact U7 | exact U8 | exact U9 | exact U10 | exact U11 | exact U12 | exact U13 | exact U14 | exact U15 | exact U16 | exact U17 | exact U18 | exact U19 | exact U20 | exact U21 | exact U22 | exact U23) (by rfl) ?_)
            refine SPL_nil ?_
            refine thenP_n ?_
            refine SP_region ?_
            refine SPL_y (y_loads Tryz.isAgg42 Tryz.sizeOf42 rfl rfl (by repeat (first | exact Cells.all _ | exact Cells.amid hpre rfl (by decide) | exact Cells.head rfl | apply Cells.tail))) rfl ?_
            refine SPL_one rfl (SP1_storeAll Tryz.sizeOf42 rfl rfl rfl rfl rfl (by first | exact U0 | exact U1 | exact U2 | exact U3 | exact U4 | exact U5 | exact U6 | exact U7 | exact U8 | exact U9 | exact U10 | exact U11 | exact U12 | exact U13 | exact U14 | exact U15 | exact U16 | exact U17 | exact U18 | exact U19 | exact U20 | exact U21 | exact U22 | exact U23) (by rfl) ?_)
            refine SPL_nil ?_
            refine inBlockP_n ?_
            refine thenP_n ?_
            exact Mid.intro (((nextW m3.ts ak z1).1, (nextW m3.ts ak z1).2.1, eb, hb, m3, List.flatten [A, sB])) (⟨Gr.refl _ _, (by rw [← hsE]; exact hM3), hP⟩) (by repeat (first | exact Sub.nil _ | refine Sub.cons rfl ?_)) (by repeat (first | exact Part.nil _ | (apply Part.cons; with_reducible (first | exact P0 | exact P1 | exact P2 | exact P3 | exact P4 | exact P5 | exact P6 | exact P7 | exact P8 | exact P9 | exact P10 | exact P11 | exact P12 | exact P13 | exact P14 | exact P15 | exact P16 | exact P17 | exact P18 | exact P19 | exact P20 | exact P21 | exact P22 | exact P23)) | (apply Part.flat; simp only [List.cons_append, List.nil_append]) | (apply Part.cons; (first | exact P0 | exact P1 | exact P2 | exact P3 | exact P4 | exact P5 | exact P6 | exact P7 | exact P8 | exact P9 | exact P10 | exact P11 | exact P12 | exact P13 | exact P14 | exact P15 | exact P16 | exact P17 | exact P18 | exact P19 | exact P20 | exact P21 | exact P22 | exact P23)) | (apply Part.nilc)))
          · refine SP1_alloc Tryz.zeroValue42 rfl rfl ?_
            intro b17
            refine ⟨fun _ => ⟨_, (by repeat (first | exact Part.nil _ | (apply Part.cons; with_reducible (first | exact P0 | exact P1 | exact P2 | exact P3 | exact P4 | exact P5 | exact P6 | exact P7 | exact P8 | exact P9 | exact P10 | exact P11 | exact P12 | exact P13 | exact P14 | exact P15 | exact P16 | exact P17 | exact P18 | exact P19 | exact P20 | exact P21 | exact P22 | exact P23)) | (apply Part.flat; simp only [List.cons_append, List.nil_append]) | (apply Part.cons; (first | exact P0 | exact P1 | exact P2 | exact P3 | exact P4 | exact P5 | exact P6 | exact P7 | exact P8 | exact P9 | exact P10 | exact P11 | exact P12 | exact P13 | exact P14 | exact P15 | exact P16 | exact P17 | exact P18 | exact P19 | exact P20 | exact P21 | exact P22 | exact P23)) | (apply Part.nilc)))⟩, ?_⟩
            refine SPG_two (i := 8) (j := 14) (by kernel_rfl) rfl rfl rfl rfl ?_ ?_
            · refine SP1_call (tm_Next x.tb x.nb m3.ts sB hTm ak haj ht2 ht3 z1 hnr2) Tryz.call108 rfl rfl (by repeat (first | exact Part.nil _ | (apply Part.cons; with_reducible (first | exact P0 | exact P1 | exact P2 | exact P3 | exact P4 | exact P5 | exact P6 | exact P7 | exact P8 | exact P9 | exact P10 | exact P11 | exact P12 | exact P13 | exact P14 | exact P15 | exact P16 | exact P17 | exact P18 | exact P19 | exact P20 | exact P21 | exact P22 | exact P23)) | (apply Part.flat; simp only [List.cons_append, List.nil_append]) | (apply Part.cons; (first | exact P0 | exact P1 | exact P2 | exact P3 | exact P4 | exact P5 | exact P6 | exact P7 | exact P8 | exact P9 | exact P10 | exact P11 | exact P12 | exact P13 | exact P14 | exact P15 | exact P16 | exact P17 | exact P18 | exact P19 | exact P20 | exact P21 | exact P22 | exact P23)) | (apply Part.nilc))) ?_
              rintro v post H' ⟨rfl, rfl⟩ hH
              try simp only [List.cons_append, List.nil_append] at hH
              subst hH
              refine ⟨fun h => absurd rfl h, ?_⟩
              refine SPG_ord [(9, 0), (10, 0), (11, 0), (12, 0), (14, 3), (15, 3), (16, 3), (17, 0)] (by kernel_rfl) (fun _ _ _ _ _ h => h) ?_
              refine SPO_p rfl (y_move rfl) rfl ?_
              refine SPO_p rfl (y_ext rfl rfl) rfl ?_
              refine SPO_p rfl (y_ext rfl rfl) rfl ?_
              refine SPO_p rfl (y_ext rfl rfl) rfl ?_
              refine SPO_z (k := 0) rfl rfl (SP1_alloc Tryz.zeroValue42 rfl rfl ?_)
              intro b18
              refine SPO_z (k := 0) rfl rfl (SP1_storeAll Tryz.sizeOf42 rfl rfl rfl rfl rfl (by first | exact U0 | exact U1 | exact U2 | exact U3 | exact U4 | exact U5 | exact U6 | exact U7 | exact U8 | exact U9 | exact U10 | exact U11 | exact U12 | exact U13 | exact U14 | exact U15 | exact U16 | exact U17 | exact U18 | exact U19 | exact U20 | exact U21 | exact U22 | exact U23) (by rfl) ?_)
              refine SPO_z (k := 0) rfl rfl (SP1_storeAll Tryz.sizeOf42 rfl rfl rfl rfl rfl (by first | exact U0 | exact U1 | exact U2 | exact U3 | exact U4 | exact U5 | exact U6 | exact U7 | exact U8 | exact U9 | exact U10 | exact U11 | exact U12 | exact U13 | exact U14 | exact U15 | exact U16 | exact U17 | exact U18 | exact U19 | exact U20 | exact U21 | exact U22 | exact U23) (by rfl) ?_)
              refine SPO_p rfl (y_assign rfl) rfl ?_
              refine SPO_nil ?_
              refine thenP_n ?_
              refine SP_seq ?_
              refine SP_seq ?_
              refine SP_region ?_
              refine SPL_y (y_move rfl) rfl ?_
              refine SPL_if (y_neq rfl rfl) rfl ?_ ?_
              · intro h50_1
                first | rw [if_pos h50_1] at hP | rw [if_neg h50_1] at hP | skip
                refine SPL_nil ?_
                refine thenP_n ?_
                refine SP_cond_t rfl ?_
                refine SP_seq ?_
                try rw [if_pos h50_1] at hP
                refine SP_part (H' := [List.flatten [A, sB]]) (by repeat (first | exact Part.nil _ | (apply Part.cons; with_reducible (first | exact P0 | exact P1 | exact P2 | exact P3 | exact P4 | exact P5 | exact P6 | exact P7 | exact P8 | exact P9 | exact P10 | exact P11 | exact P12 | exact P13 | exact P14 | exact P15 | exact P16 | exact P17 | exact P18 | exact P19 | exact P20 | exact P21 | exact P22 | exact P23)) | (apply Part.flat; simp only [List.cons_append, List.nil_append]) | (apply Part.cons; (first | exact P0 | exact P1 | exact P2 | exact P3 | exact P4 | exact P5 | exact P6 | exact P7 | exact P8 | exact P9 | exact P10 | exact P11 | exact P12 | exact P13 | exact P14 | exact P15 | exact P16 | exact P17 | exact P18 | exact P19 | exact P20 | exact P21 | exact P22 | exact P23)) | (apply Part.nilc))) ?_
                rw [← hsE]
                refine SP_region ?_
                refine SPL_y (y_move rfl) rfl ?_
                refine SPL_one rfl (SP1_call (cm_raise x eb hb hP _ hM3) Tryz.call104 rfl rfl (by repeat (first | exact Part.nil _ | (apply Part.cons; with_reducible (first | exact P0 | exact P1 | exact P2 | exact P3 | exact P4 | exact P5 | exact P6 | exact P7 | exact P8 | exact P9 | exact P10 | exact P11 | exact P12 | exact P13 | exact P14 | exact P15 | exact P16 | exact P17 | exact P18 | exact P19 | exact P20 | exact P21 | exact P22 | exact P23)) | (apply Part.flat; simp only [List.cons_append, List.nil_append]) | (apply Part.cons; (first | exact P0 | exact P1 | exact P2 | exact P3 | exact P4 | exact P5 | exact P6 | exact P7 | exact P8 | exact P9 | exact P10 | exact P11 | exact P12 | exact P13 | exact P14 | exact P15 | exact P16 | exact P17 | exact P18 | exact P19 | exact P20 | exact P21 | exact P22 | exact P23)) | (apply Part.nilc))) ?_)
                rintro v post H' ⟨rfl, sg9, hM9, rfl⟩ hH
                try simp only [List.cons_append, List.nil_append] at hH
                subst hH
                refine SPL_nil ?_
                refine thenP_n ?_
                refine SP_ret ?_
                refine thenP_ret (inBlockP_ret (thenP_ret (bodyP_ret (H' := [sg9]) (Res0 rfl) (by repeat (first | exact Part.nil _ | (apply Part.cons; with_reducible (first | exact P0 | exact P1 | exact P2 | exact P3 | exact P4 | exact P5 | exact P6 | exact P7 | exact P8 | exact P9 | exact P10 | exact P11 | exact P12 | exact P13 | exact P14 | exact P15 | exact P16 | exact P17 | exact P18 | exact P19 | exact P20 | exact P21 | exact P22 | exact P23)) | (apply Part.flat; simp only [List.cons_append, List.nil_append]) | (apply Part.cons; (first | exact P0 | exact P1 | exact P2 | exact P3 | exact P4 | exact P5 | exact P6 | exact P7 | exact P8 | exact P9 | exact P10 | exact P11 | exact P12 | exact P13 | exact P14 | exact P15 | exact P16 | exact P17 | exact P18 | exact P19 | exact P20 | exact P21 | exact P22 | exact P23)) | (apply Part.nilc))) ?_)))
                exact ⟨rfl, eb, hb, _, Gr.refl _ _, hM9, rfl⟩
              intro h50_1
              first | rw [if_neg h50_1] at hP | rw [if_pos (Decidable.not_not.1 h50_1)] at hP | skip
              refine SPL_nil ?_
              refine thenP_n ?_
              refine SP_cond_f rfl ?_
              refine SP_skip ?_
              refine thenP_n ?_
              refine SP_seq ?_
              try rw [if_neg h50_1] at hP
              refine SP_region ?_
              refine SPL_y (y_loads Tryz.isAgg42 Tryz.sizeOf42 rfl rfl (by repeat (first | exact Cells.all _ | exact Cells.amid hpre rfl (by decide) | exact Cells.head rfl | apply Cells.tail))) rfl ?_
              refine SPL_one rfl (SP1_storeAll Tryz.sizeOf42 rfl rfl rfl rfl rfl (by first | exact U0 | exact U1 | exact U2 | exact U3 | exact U4 | exact U5 | exact U6 | exact U7 | exact U8 | exact U9 | exact U10 | exact U11 | exact U12 | exact U13 | exact U14 | exact U15 | exact U16 | exact U17 | exact U18 | exact U19 | exact U20 | exact U21 | exact U22 | exact U23) (by rfl) ?_)
              refine SPL_nil ?_
              refine thenP_n ?_
              refine SP_region ?_
              refine SPL_y (y_loads Tryz.isAgg42 Tryz.sizeOf42 rfl rfl (by repeat (first | exact Cells.all _ | exact Cells.amid hpre rfl (by decide) | exact Cells.head rfl | apply Cells.tail))) rfl ?_
              refine SPL_one rfl (SP1_storeAll Tryz.sizeOf42 rfl rfl rfl rfl rfl (by first | exact U0 | exact U1 | exact U2 | exact U3 | exact U4 | exact U5 | exact U6 | exact U7 | exact U8 | exact U9 | exact U10 | exact U11 | exact U12 | exact U13 | exact U14 | exact U15 | exact U16 | exact U17 | exact U18 | exact U19 | exact U20 | exact U21 | exact U22 | exact U23) (by rfl) ?_)
              refine SPL_nil ?_
              refine inBlockP_n ?_
              refine thenP_n ?_
              exact Mid.intro (((nextW m3.ts ak z1).1, (nextW m3.ts ak z1).2.1, eb, hb, m3, List.flatten [A, sB])) (⟨Gr.refl _ _, (by rw [← hsE]; exact hM3), hP⟩) (by repeat (first | exact Sub.nil _ | refine Sub.cons rfl ?_)) (by repeat (first | exact Part.nil _ | (apply Part.cons; with_reducible (first | exact P0 | exact P1 | exact P2 | exact P3 | exact P4 | exact P5 | exact P6 | exact P7 | exact P8 | exact P9 | exact P10 | exact P11 | exact P12 | exact P13 | exact P14 | exact P15 | exact P16 | exact P17 | exact P18 | exact P19 | exact P20 | exact P21 | exact P22 | exact P23)) | (apply Part.flat; simp only [List.cons_append, List.nil_append]) | (apply Part.cons; (first | exact P0 | exact P1 | exact P2 | exact P3 | exact P4 | exact P5 | exact P6 | exact P7 | exact P8 | exact P9 | exact P10 | exact P11 | exact P12 | exact P13 | exact P14 | exact P15 | exact P16 | exact P17 | exact P18 | exact P19 | exact P20 | exact P21 | exact P22 | exact P23)) | (apply Part.nilc)))
            refine SP1_alloc Tryz.zeroValue42 rfl rfl ?_
            intro b18
            refine ⟨fun _ => ⟨_, (by repeat (first | exact Part.nil _ | (apply Part.cons; with_reducible (first | exact P0 | exact P1 | exact P2 | exact P3 | exact P4 | exact P5 | exact P6 | exact P7 | exact P8 | exact P9 | exact P10 | exact P11 | exact P12 | exact P13 | exact P14 | exact P15 | exact P16 | exact P17 | exact P18 | exact P19 | exact P20 | exact P21 | exact P22 | exact P23)) | (apply Part.flat; simp only [List.cons_append, List.nil_append]) | (apply Part.cons; (first | exact P0 | exact P1 | exact P2 | exact P3 | exact P4 | exact P5 | exact P6 | exact P7 | exact P8 | exact P9 | exact P10 | exact P11 | exact P12 | exact P13 | exact P14 | exact P15 | exact P16 | exact P17 | exact P18 | exact P19 | exact P20 | exact P21 | exact P22 | exact P23)) | (apply Part.nilc)))⟩, ?_⟩
            refine SPG_ord [(8, 3), (9, 0), (10, 0), (11, 0), (12, 0), (15, 3), (16, 3), (17, 0)] (by kernel_rfl) (fun _ _ _ _ _ h => h) ?_
            refine SPO_z (k := 0) rfl rfl (SP1_call (tm_Next x.tb x.nb m3.ts sB hTm ak haj ht2 ht3 z1 hnr2) Tryz.call108 rfl rfl (by repeat (first | exact Part.nil _ | (apply Part.cons; with_reducible (first | exact P0 | exact P1 | exact P2 | exact P3 | exact P4 | exact P5 | exact P6 | exact P7 | exact P8 | exact P9 | exact P10 | exact P11 | exact P12 | exact P13 | exact P14 | exact P15 | exact P16 | exact P17 | exact P18 | exact P19 | exact P20 | exact P21 | exact P22 | exact P23)) | (apply Part.flat; simp only [List.cons_append, List.nil_append]) | (apply Part.cons; (first | exact P0 | exact P1 | exact P2 | exact P3 | exact P4 | exact P5 | exact P6 | exact P7 | exact P8 | exact P9 | exact P10 | exact P11 | exact P12 | exact P13 | exact P14 | exact P15 | exact P16 | exact P17 | exact P18 | exact P19 | exact P20 | exact P21 | exact P22 | exact P23)) | (apply Part.nilc))) ?_)
            rintro v post H' ⟨rfl, rfl⟩ hH
            try simp only [List.cons_append, List.nil_append] at hH
            subst hH
            refine SPO_p rfl (y_move rfl) rfl ?_
            refine SPO_p rfl (y_ext rfl rfl) rfl ?_
            refine SPO_p rfl (y_ext rfl rfl) rfl ?_
            refine SPO_p rfl (y_ext rfl rfl) rfl ?_
            refine SPO_z (k := 0) rfl rfl (SP1_storeAll Tryz.sizeOf42 rfl rfl rfl rfl rfl (by first | exact U0 | exact U1 | exact U2 | exact U3 | exact U4 | exact U5 | exact U6 | exact U7 | exact U8 | exact U9 | exact U10 | exact U11 | exact U12 | exact U13 | exact U14 | exact U15 | exact U16 | exact U17 | exact U18 | exact U19 | exact U20 | exact U21 | exact U22 | exact U23) (by rfl) ?_)
            refine SPO_z (k := 0) rfl rfl (SP1_storeAll Tryz.sizeOf42 rfl rfl rfl rfl rfl (by first | exact U0 | exact U1 | exact U2 | exact U3 | exact U4 | exact U5 | exact U6 | exact U7 | exact U8 | exact U9 | exact U10 | exact U11 | exact U12 | exact U13 | exact U14 | exact U15 | exact U16 | exact U17 | exact U18 | exact U19 | exact U20 | exact U21 | exact U22 | exact U23) (by rfl) ?_)
            refine SPO_p rfl (y_assign rfl) rfl ?_
            refine SPO_nil ?_
            refine thenP_n ?_
            refine SP_seq ?_
            refine SP_seq ?_
            refine SP_region ?_
            refine SPL_y (y_move rfl) rfl ?_
            refine SPL_if (y_neq rfl rfl) rfl ?_ ?_
            · intro h50_1
              first | rw [if_pos h50_1] at hP | rw [if_neg h50_1] at hP | skip
              refine SPL_nil ?_
              refine thenP_n ?_
              refine SP_cond_t rfl ?_
              refine SP_seq ?_
              try rw [if_pos h50_1] at hP
              refine SP_part (H' := [List.flatten [A, sB]]) (by repeat (first | exact Part.nil _ | (apply Part.cons; with_reducible (first | exact P0 | exact P1 | exact P2 | exact P3 | exact P4 | exact P5 | exact P6 | exact P7 | exact P8 | exact P9 | exact P10 | exact P11 | exact P12 | exact P13 | exact P14 | exact P15 | exact P16 | exact P17 | exact P18 | exact P19 | exact P20 | exact P21 | exact P22 | exact P23)) | (apply Part.flat; simp only [List.cons_append, List.nil_append]) | (apply Part.cons; (first | exact P0 | exact P1 | exact P2 | exact P3 | exact P4 | exact P5 | exact P6 | exact P7 | exact P8 | exact P9 | exact P10 | exact P11 | exact P12 | exact P13 | exact P14 | exact P15 | exact P16 | exact P17 | exact P18 | exact P19 | exact P20 | exact P21 | exact P22 | exact P23)) | (apply Part.nilc))) ?_
              rw [← hsE]
              refine SP_region ?_
              refine SPL_y (y_move rfl) rfl ?_
              refine SPL_one rfl (SP1_call (cm_raise x eb hb hP _ hM3) Tryz.call104 rfl rfl (by repeat (first | exact Part.nil _ | (apply Part.cons; with_reducible (first | exact P0 | exact P1 | exact P2 | exact P3 | exact P4 | exact P5 | exact P6 | exact P7 | exact P8 | exact P9 | exact P10 | exact P11 | exact P12 | exact P13 | exact P14 | exact P15 | exact P16 | exact P17 | exact P18 | exact P19 | exact P20 | exact P21 | exact P22 | exact P23)) | (apply Part.flat; simp only [List.cons_append, List.nil_append]) | (apply Part.cons; (first | exact P0 | exact P1 | exact P2 | exact P3 | exact P4 | exact P5 | exact P6 | exact P7 | exact P8 | exact P9 | exact P10 | exact P11 | exact P12 | exact P13 | exact P14 | exact P15 | exact P16 | exact P17 | exact P18 | exact P19 | exact P20 | exact P21 | exact P22 | exact P23)) | (apply Part.nilc))) ?_)
              rintro v post H' ⟨rfl, sg9, hM9, rfl⟩ hH
              try simp only [List.cons_append, List.nil_append] at hH
              subst hH
              refine SPL_nil ?_
              refine thenP_n ?_
              refine SP_ret ?_
              refine thenP_ret (inBlockP_ret (thenP_ret (bodyP_ret (H' := [sg9]) (Res0 rfl) (by repeat (first | exact Part.nil _ | (apply Part.cons; with_reducible (first | exact P0 | exact P1 | exact P2 | exact P3 | exact P4 | exact P5 | exact P6 | exact P7 | exact P8 | exact P9 | exact P10 | exact P11 | exact P12 | exact P13 | exact P14 | exact P15 | exact P16 | exact P17 | exact P18 | exact P19 | exact P20 | exact P21 | exact P22 | exact P23)) | (apply Part.flat; simp only [List.cons_append, List.nil_append]) | (apply Part.cons; (first | exact P0 | exact P1 | exact P2 | exact P3 | exact P4 | exact P5 | exact P6 | exact P7 | exact P8 | exact P9 | exact P10 | exact P11 | exact P12 | exact P13 | exact P14 | exact P15 | exact P16 | exact P17 | exact P18 | exact P19 | exact P20 | exact P21 | exact P22 | exact P23)) | (apply Part.nilc))) ?_)))
              exact ⟨rfl, eb, hb, _, Gr.refl _ _, hM9, rfl⟩
            intro h50_1
            first | rw [if_neg h50_1] at hP | rw [if_pos (Decidable.not_not.1 h50_1)] at hP | skip
            refine SPL_nil ?_
            refine thenP_n ?_
            refine SP_cond_f rfl ?_
            refine SP_skip ?_
            refine thenP_n ?_
            refine SP_seq ?_
            try rw [if_neg h50_1] at hP
            refine SP_region ?_
            refine SPL_y (y_loads Tryz.isAgg42 Tryz.sizeOf42 rfl rfl (by repeat (first | exact Cells.all _ | exact Cells.amid hpre rfl (by decide) | exact Cells.head rfl | apply Cells.tail))) rfl ?_
            refine SPL_one rfl (SP1_storeAll Tryz.sizeOf42 rfl rfl rfl rfl rfl (by first | exact U0 | exact U1 | exact U2 | exact U3 | exact U4 | exact U5 | exact U6 | exact U7 | exact U8 | exact U9 | exact U10 | exact U11 | exact U12 | exact U13 | exact U14 | exact U15 | exact U16 | exact U17 | exact U18 | exact U19 | exact U20 | exact U21 | exact U22 | exact U23) (by rfl) ?_)
            refine SPL_nil ?_
            refine thenP_n ?_
            refine SP_region ?_
            refine SPL_y (y_loads Tryz.isAgg42 Tryz.sizeOf42 rfl rfl (by repeat (first | exact Cells.all _ | exact Cells.amid hpre rfl (by decide) | exact Cells.head rfl | apply Cells.tail))) rfl ?_
            refine SPL_one rfl (SP1_storeAll Tryz.sizeOf42 rfl rfl rfl rfl rfl (by first | exact U0 | exact U1 | exact U2 | exact U3 | exact U4 | exact U5 | exact U6 | exact U7 | exact U8 | exact U9 | exact U10 | exact U11 | exact U12 | exact U13 | exact U14 | exact U15 | exact U16 | exact U17 | exact U18 | exact U19 | exact U20 | exact U21 | exact U22 | exact U23) (by rfl) ?_)
            refine SPL_nil ?_
            refine inBlockP_n ?_
            refine thenP_n ?_
            exact Mid.intro (((nextW m3.ts ak z1).1, (nextW m3.ts ak z1).2.1, eb, hb, m3, List.flatten [A, sB])) (⟨Gr.refl _ _, (by rw [← hsE]; exact hM3), hP⟩) (by repeat (first | exact Sub.nil _ | refine Sub.cons rfl ?_)) (by repeat (first | exact Part.nil _ | (apply Part.cons; with_reducible (first | exact P0 | exact P1 | exact P2 | exact P3 | exact P4 | exact P5 | exact P6 | exact P7 | exact P8 | exact P9 | exact P10 | exact P11 | exact P12 | exact P13 | exact P14 | exact P15 | exact P16 | exact P17 | exact P18 | exact P19 | exact P20 | exact P21 | exact P22 | exact P23)) | (apply Part.flat; simp only [List.cons_append, List.nil_append]) | (apply Part.cons; (first | exact P0 | exact P1 | exact P2 | exact P3 | exact P4 | exact P5 | exact P6 | exact P7 | exact P8 | exact P9 | exact P10 | exact P11 | exact P12 | exact P13 | exact P14 | exact P15 | exact P16 | exact P17 | exact P18 | exact P19 | exact P20 | exact P21 | exact P22 | exact P23)) | (apply Part.nilc)))
          refine SP1_alloc Tryz.zeroValue42 rfl rfl ?_
          intro b18
          refine ⟨fun _ => ⟨_, (by repeat (first | exact Part.nil _ | (apply Part.cons; with_reducible (first | exact P0 | exact P1 | exact P2 | exact P3 | exact P4 | exact P5 | exact P6 | exact P7 | exact P8 | exact P9 | exact P10 | exact P11 | exact P12 | exact P13 | exact P14 | exact P15 | exact P16 | exact P17 | exact P18 | exact P19 | exact P20 | exact P21 | exact P22 | exact P23)) | (apply Part.flat; simp only [List.cons_append, List.nil_append]) | (apply Part.cons; (first | exact P0 | exact P1 | exact P2 | exact P3 | exact P4 | exact P5 | exact P6 | exact P7 | exact P8 | exact P9 | exact P10 | exact P11 | exact P12 | exact P13 | exact P14 | exact P15 | exact P16 | exact P17 | exact P18 | exact P19 | exact P20 | exact P21 | exact P22 | exact P23)) | (apply Part.nilc)))⟩, ?_⟩
          refine SPG_two (i := 8) (j := 13) (by kernel_rfl) rfl rfl rfl rfl ?_ ?_
          · refine SP1_call (tm_Next x.tb x.nb m3.ts sB hTm ak haj ht2 ht3 z1 hnr2) Tryz.call108 rfl rfl (by repeat (first | exact Part.nil _ | (apply Part.cons; with_reducible (first | exact P0 | exact P1 | exact P2 | exact P3 | exact P4 | exact P5 | exact P6 | exact P7 | exact P8 | exact P9 | exact P10 | exact P11 | exact P12 | exact P13 | exact P14 | exact P15 | exact P16 | exact P17 | exact P18 | exact P19 | exact P20 | exact P21 | exact P22 | exact P23)) | (apply Part.flat; simp only [List.cons_append, List.nil_append]) | (apply Part.cons; (first | exact P0 | exact P1 | exact P2 | exact P3 | exact P4 | exact P5 | exact P6 | exact P7 | exact P8 | exact P9 | exact P10 | exact P11 | exact P12 | exact P13 | exact P14 | exact P15 | exact P16 | exact P17 | exact P18 | exact P19 | exact P20 | exact P21 | exact P22 | exact P23)) | (apply Part.nilc))) ?_
            rintro v post H' ⟨rfl, rfl⟩ hH
            try simp only [List.cons_append, List.nil_append] at hH
            subst hH
            refine ⟨fun h => absurd rfl h, ?_⟩
            refine SPG_ord [(9, 0), (10, 0), (11, 0), (12, 0), (13, 3), (15, 3), (16, 3), (17, 0)] (by kernel_rfl) (fun _ _ _ _ _ h => h) ?_
            refine SPO_p rfl (y_move rfl) rfl ?_
            refine SPO_p rfl (y_ext rfl rfl) rfl ?_
            refine SPO_p rfl (y_ext rfl rfl) rfl ?_
            refine SPO_p rfl (y_ext rfl rfl) rfl ?_
            refine SPO_z (k := 0) rfl rfl (SP1_alloc Tryz.zeroValue42 rfl rfl ?_)
            intro b17
            refine SPO_z (k := 0) rfl rfl (SP1_storeAll Tryz.sizeOf42 rfl rfl rfl rfl rfl (by first | exact U0 | exact U1 | exact U2 | exact U3 | exact U4 | exact U5 | exact U6 | exact U7 | exact U8 | exact U9 | exact U10 | exact U11 | exact U12 | exact U13 | exact U14 | exact U15 | exact U16 | exact U17 | exact U18 | exact U19 | exact U20 | exact U21 | exact U22 | exact U23) (by rfl) ?_)
            refine SPO_z (k := 0) rfl rfl (SP1_storeAll Tryz.sizeOf42 rfl rfl rfl rfl rfl (by first | exact U0 | exact U1 | exact U2 | exact U3 | exact U4 | exact U5 | exact U6 | exact U7 | exact U8 | exact U9 | exact U10 | exact U11 | exact U12 | exact U13 | exact U14 | exact U15 | exact U16 | exact U17 | exact U18 | exact U19 | exact U20 | exact U21 | exact U22 | exact U23) (by rfl) ?_)
            refine SPO_p rfl (y_assign rfl) rfl ?_
            refine SPO_nil ?_
            refine thenP_n ?_
            refine SP_seq ?_
            refine SP_seq ?_
            refine SP_region ?_
            refine SPL_y (y_move rfl) rfl ?_
            refine SPL_if (y_neq rfl rfl) rfl ?_ ?_
            · intro h50_1
              first | rw [if_pos h50_1] at hP | rw [if_neg h50_1] at hP | skip
              refine SPL_nil ?_
              refine thenP_n ?_
              refine SP_cond_t rfl ?_
              refine SP_seq ?_
              try rw [if_pos h50_1] at hP
              refine SP_part (H' := [List.flatten [A, sB]]) (by repeat (first | exact Part.nil _ | (apply Part.cons; with_reducible (first | exact P0 | exact P1 | exact P2 | exact P3 | exact P4 | exact P5 | exact P6 | exact P7 | exact P8 | exact P9 | exact P10 | exact P11 | exact P12 | exact P13 | exact P14 | exact P15 | exact P16 | exact P17 | exact P18 | exact P19 | exact P20 | exact P21 | exact P22 | exact P23)) | (apply Part.flat; simp only [List.cons_append, List.nil_append]) | (apply Part.cons; (first | exact P0 | exact P1 | exact P2 | exact P3 | exact P4 | exact P5 | exact P6 | exact P7 | exact P8 | exact P9 | exact P10 | exact P11 | exact P12 | exact P13 | exact P14 | exact P15 | exact P16 | exact P17 | exact P18 | exact P19 | exact P20 | exact P21 | exact P22 | exact P23)) | (apply Part.nilc))) ?_
              rw [← hsE]
              refine SP_region ?_
              refine SPL_y (y_move rfl) rfl ?_
              refine SPL_one rfl (SP1_call (cm_raise x eb hb hP _ hM3) Tryz.call104 rfl rfl (by repeat (first | exact Part.nil _ | (apply Part.cons; with_reducible (first | exact P0 | exact P1 | exact P2 | exact P3 | exact P4 | exact P5 | exact P6 | exact P7 | exact P8 | exact P9 | exact P10 | exact P11 | exact P12 | exact P13 | exact P14 | exact P15 | exact P16 | exact P17 | exact P18 | exact P19 | exact P20 | exact P21 | exact P22 | exact P23)) | (apply Part.flat; simp only [List.cons_append, List.nil_append]) | (apply Part.cons; (first | exact P0 | exact P1 | exact P2 | exact P3 | exact P4 | exact P5 | exact P6 | exact P7 | exact P8 | exact P9 | exact P10 | exact P11 | exact P12 | exact P13 | exact P14 | exact P15 | exact P16 | exact P17 | exact P18 | exact P19 | exact P20 | exact P21 | exact P22 | exact P23)) | (apply Part.nilc))) ?_)
              rintro v post H' ⟨rfl, sg9, hM9, rfl⟩ hH
              try simp only [List.cons_append, List.nil_append] at hH
              subst hH
              refine SPL_nil ?_
              refine thenP_n ?_
              refine SP_ret ?_
              refine thenP_ret (inBlockP_ret (thenP_ret (bodyP_ret (H' := [sg9]) (Res0 rfl) (by repeat (first | exact Part.nil _ | (apply Part.cons; with_reducible (first | exact P0 | exact P1 | exact P2 | exact P3 | exact P4 | exact P5 | exact P6 | exact P7 | exact P8 | exact P9 | exact P10 | exact P11 | exact P12 | exact P13 | exact P14 | exact P15 | exact P16 | exact P17 | exact P18 | exact P19 | exact P20 | exact P21 | exact P22 | exact P23)) | (apply Part.flat; simp only [List.cons_append, List.nil_append]) | (apply Part.cons; (first | exact P0 | exact P1 | exact P2 | exact P3 | exact P4 | exact P5 | exact P6 | exact P7 | exact P8 | exact P9 | exact P10 | exact P11 | exact P12 | exact P13 | exact P14 | exact P15 | exact P16 | exact P17 | exact P18 | exact P19 | exact P20 | exact P21 | exact P22 | exact P23)) | (apply Part.nilc))) ?_)))
              exact ⟨rfl, eb, hb, _, Gr.refl _ _, hM9, rfl⟩
            intro h50_1
            first | rw [if_neg h50_1] at hP | rw [if_pos (Decidable.not_not.1 h50_1)] at hP | skip
            refine SPL_nil ?_
            refine thenP_n ?_
            refine SP_cond_f rfl ?_
            refine SP_skip ?_
            refine thenP_n ?_
            refine SP_seq ?_
            try rw [if_neg h50_1] at hP
            refine SP_region ?_
            refine SPL_y (y_loads Tryz.isAgg42 Tryz.sizeOf42 rfl rfl (by repeat (first | exact Cells.all _ | exact Cells.amid hpre rfl (by decide) | exact Cells.head rfl | apply Cells.tail))) rfl ?_
            refine SPL_one rfl (SP1_storeAll Tryz.sizeOf42 rfl rfl rfl rfl rfl (by first | exact U0 | exact U1 | exact U2 | exact U3 | exact U4 | exact U5 | exact U6 | exact U7 | exact U8 | exact U9 | exact U10 | exact U11 | exact U12 | exact U13 | exact U14 | exact U15 | exact U16 | exact U17 | exact U18 | exact U19 | exact U20 | exact U21 | exact U22 | exact U23) (by rfl) ?_)
            refine SPL_nil ?_
            refine thenP_n ?_
            refine SP_region ?_
            refine SPL_y (y_loads Tryz.isAgg42 Tryz.sizeOf42 rfl rfl (by repeat (first | exact Cells.all _ | exact Cells.amid hpre rfl (by decide) | exact Cells.head rfl | apply Cells.tail))) rfl ?_
            refine SPL_one rfl (SP1_storeAll Tryz.sizeOf42 rfl rfl rfl rfl rfl (by first | exact U0 | exact U1 | exact U2 | exact U3 | exact U4 | exact U5 | exact U6 | exact U7 | exact U8 | exact U9 | exact U10 | exact U11 | exact U12 | exact U13 | exact U14 | exact U15 | exact U16 | exact U17 | exact U18 | exact U19 | exact U20 | exact U21 | exact U22 | exact U23) (by rfl) ?_)
            refine SPL_nil ?_
            refine inBlockP_n ?_
            refine thenP_n ?_
            exact Mid.intro (((nextW m3.ts ak z1).1, (nextW m3.ts ak z1).2.1, eb, hb, m3, List.flatten [A, sB])) (⟨Gr.refl _ _, (by rw [← hsE]; exact hM3), hP⟩) (by repeat (first | exact Sub.nil _ | refine Sub.cons rfl ?_)) (by repeat (first | exact Part.nil _ | (apply Part.cons; with_reducible (first | exact P0 | exact P1 | exact P2 | exact P3 | exact P4 | exact P5 | exact P6 | exact P7 | exact P8 | exact P9 | exact P10 | exact P11 | exact P12 | exact P13 | exact P14 | exact P15 | exact P16 | exact P17 | exact P18 | exact P19 | exact P20 | exact P21 | exact P22 | exact P23)) | (apply Part.flat; simp only [List.cons_append, List.nil_append]) | (apply Part.cons; (first | exact P0 | exact P1 | exact P2 | exact P3 | exact P4 | exact P5 | exact P6 | exact P7 | exact P8 | exact P9 | exact P10 | exact P11 | exact P12 | exact P13 | exact P14 | exact P15 | exact P16 | exact P17 | exact P18 | exact P19 | exact P20 | exact P21 | exact P22 | exact P23)) | (apply Part.nilc)))
          refine SP1_alloc Tryz.zeroValue42 rfl rfl ?_
          intro b17
          refine ⟨fun _ => ⟨_, (by repeat (first | exact Part.nil _ | (apply Part.cons; with_reducible (first | exact P0 | exact P1 | exact P2 | exact P3 | exact P4 | exact P5 | exact P6 | exact P7 | exact P8 | exact P9 | exact P10 | exact P11 | exact P12 | exact P13 | exact P14 | exact P15 | exact P16 | exact P17 | exact P18 | exact P19 | exact P20 | exact P21 | exact P22 | exact P23)) | (apply Part.flat; simp only [List.cons_append, List.nil_append]) | (apply Part.cons; (first | exact P0 | exact P1 | exact P2 | exact P3 | exact P4 | exact P5 | exact P6 | exact P7 | exact P8 | exact P9 | exact P10 | exact P11 | exact P12 | exact P13 | exact P14 | exact P15 | exact P16 | exact P17 | exact P18 | exact P19 | exact P20 | exact P21 | exact P22 | exact P23)) | (apply Part.nilc)))⟩, ?_⟩
          refine SPG_ord [(8, 3), (9, 0), (10, 0), (11, 0), (12, 0), (15, 3), (16, 3), (17, 0)] (by kernel_rfl) (fun _ _ _ _ _ h => h) ?_
          refine SPO_z (k := 0) rfl rfl (SP1_call (tm_Next x.tb x.nb m3.ts sB hTm ak haj ht2 ht3 z1 hnr2) Tryz.call108 rfl rfl (by repeat (first | exact Part.nil _ | (apply Part.cons; with_reducible (first | exact P0 | exact P1 | exact P2 | exact P3 | exact P4 | exact P5 | exact P6 | exact P7 | exact P8 | exact P9 | exact P10 | exact P11 | exact P12 | exact P13 | exact P14 | exact P15 | exact P16 | exact P17 | exact P18 | exact P19 | exact P20 | exact P21 | exact P22 | exact P23)) | (apply Part.flat; simp only [List.cons_append, List.nil_append]) | (apply Part.cons; (first | exact P0 | exact P1 | exact P2 | exact P3 | exact P4 | exact P5 | exact P6 | exact P7 | exact P8 | exact P9 | exact P10 | exact P11 | exact P12 | exact P13 | exact P14 | exact P15 | exact P16 | exact P17 | exact P18 | exact P19 | exact P20 | exact P21 | exact P22 | exact P23)) | (apply Part.nilc))) ?_)
          rintro v post H' ⟨rfl, rfl⟩ hH
          try simp only [List.cons_append, List.nil_append] at hH
          subst hH
          refine SPO_p rfl (y_move rfl) rfl ?_
          refine SPO_p rfl (y_ext rfl rfl) rfl ?_
          refine SPO_p rfl (y_ext rfl rfl) rfl ?_
          refine SPO_p rfl (y_ext rfl rfl) rfl ?_
          refine SPO_z (k := 0) rfl rfl (SP1_storeAll Tryz.sizeOf42 rfl rfl rfl rfl rfl (by first | exact U0 | exact U1 | exact U2 | exact U3 | exact U4 | exact U5 | exact U6 | exact U7 | exact U8 | exact U9 | exact U10 | exact U11 | exact U12 | exact U13 | exact U14 | exact U15 | exact U16 | exact U17 | exact U18 | exact U19 | exact U20 | exact U21 | exact U22 | exact U23) (by rfl) ?_)
          refine SPO_z (k := 0) rfl rfl (SP1_storeAll Tryz.sizeOf42 rfl rfl rfl rfl rfl (by first | exact U0 | exact U1 | exact U2 | exact U3 | exact U4 | exact U5 | exact U6 | exact U7 | exact U8 | exact U9 | exact U10 | exact U11 | exact U12 | exact U13 | exact U14 | exact U15 | exact U16 | exact U17 | exact U18 | exact U19 | exact U20 | exact U21 | exact U22 | exact U23) (by rfl) ?_)
          refine SPO_p rfl (y_assign rfl) rfl ?_
          refine SPO_nil ?_
          refine thenP_n ?_
          refine SP_seq ?_
          refine SP_seq ?_
          refine SP_region ?_
          refine SPL_y (y_move rfl) rfl ?_
          refine SPL_if (y_neq rfl rfl) rfl ?_ ?_
          · intro h50_1
            first | rw [if_pos h50_1] at hP | rw [if_neg h50_1] at hP | skip
            refine SPL_nil ?_
            refine thenP_n ?_
            refine SP_cond_t rfl ?_
            refine SP_seq ?_
            try rw [if_pos h50_1] at hP
            refine SP_part (H' := [List.flatten [A, sB]]) (by repeat (first | exact Part.nil _ | (apply Part.cons; with_reducible (first | exact P0 | exact P1 | exact P2 | exact P3 | exact P4 | exact P5 | exact P6 | exact P7 | exact P8 | exact P9 | exact P10 | exact P11 | exact P12 | exact P13 | exact P14 | exact P15 | exact P16 | exact P17 | exact P18 | exact P19 | exact P20 | exact P21 | exact P22 | exact P23)) | (apply Part.flat; simp only [List.cons_append, List.nil_append]) | (apply Part.cons; (first | exact P0 | exact P1 | exact P2 | exact P3 | exact P4 | exact P5 | exact P6 | exact P7 | exact P8 | exact P9 | exact P10 | exact P11 | exact P12 | exact P13 | exact P14 | exact P15 | exact P16 | exact P17 | exact P18 | exact P19 | exact P20 | exact P21 | exact P22 | exact P23)) | (apply Part.nilc))) ?_
            rw [← hsE]
            refine SP_region ?_
            refine SPL_y (y_move rfl) rfl ?_
            refine SPL_one rfl (SP1_call (cm_raise x eb hb hP _ hM3) Tryz.call104 rfl rfl (by repeat (first | exact Part.nil _ | (apply Part.cons; with_reducible (first | exact P0 | exact P1 | exact P2 | exact P3 | exact P4 | exact P5 | exact P6 | exact P7 | exact P8 | exact P9 | exact P10 | exact P11 | exact P12 | exact P13 | exact P14 | exact P15 | exact P16 | exact P17 | exact P18 | exact P19 | exact P20 | exact P21 | exact P22 | exact P23)) | (apply Part.flat; simp only [List.cons_append, List.nil_append]) | (apply Part.cons; (first | exact P0 | exact P1 | exact P2 | exact P3 | exact P4 | exact P5 | exact P6 | exact P7 | exact P8 | exact P9 | exact P10 | exact P11 | exact P12 | exact P13 | exact P14 | exact P15 | exact P16 | exact P17 | exact P18 | exact P19 | exact P20 | exact P21 | exact P22 | exact P23)) | (apply Part.nilc))) ?_)
            rintro v post H' ⟨rfl, sg9, hM9, rfl⟩ hH
            try simp only [List.cons_append, List.nil_append] at hH
            subst hH
            refine SPL_nil ?_
            refine thenP_n ?_
            refine SP_ret ?_
            refine thenP_ret (inBlockP_ret (thenP_ret (bodyP_ret (H' := [sg9]) (Res0 rfl) (by repeat (first | exact Part.nil _ | (apply Part.cons; with_reducible (first | exact P0 | exact P1 | exact P2 | exact P3 | exact P4 | exact P5 | exact P6 | exact P7 | exact P8 | exact P9 | exact P10 | exact P11 | exact P12 | exact P13 | exact P14 | exact P15 | exact P16 | exact P17 | exact P18 | exact P19 | exact P20 | exact P21 | exact P22 | exact P23)) | (apply Part.flat; simp only [List.cons_append, List.nil_append]) | (apply Part.cons; (first | exact P0 | exact P1 | exact P2 | exact P3 | exact P4 | exact P5 | exact P6 | exact P7 | exact P8 | exact P9 | exact P10 | exact P11 | exact P12 | exact P13 | exact P14 | exact P15 | exact P16 | exact P17 | exact P18 | exact P19 | exact P20 | exact P21 | exact P22 | exact P23)) | (apply Part.nilc))) ?_)))
            exact ⟨rfl, eb, hb, _, Gr.refl _ _, hM9, rfl⟩
          intro h50_1
          first | rw [if_neg h50_1] at hP | rw [if_pos (Decidable.not_not.1 h50_1)] at hP | skip
          refine SPL_nil ?_
          refine thenP_n ?_
          refine SP_cond_f rfl ?_
          refine SP_skip ?_
          refine thenP_n ?_
          refine SP_seq ?_
          try rw [if_neg h50_1] at hP
          refine SP_region ?_
          refine SPL_y (y_loads Tryz.isAgg42 Tryz.sizeOf42 rfl rfl (by repeat (first | exact Cells.all _ | exact Cells.amid hpre rfl (by decide) | exact Cells.head rfl | apply Cells.tail))) rfl ?_
          refine SPL_one rfl (SP1_storeAll Tryz.sizeOf42 rfl rfl rfl rfl rfl (by first | exact U0 | exact U1 | exact U2 | exact U3 | exact U4 | exact U5 | exact U6 | exact U7 | exact U8 | exact U9 | exact U10 | exact U11 | exact U12 | exact U13 | exact U14 | exact U15 | exact U16 | exact U17 | exact U18 | exact U19 | exact U20 | exact U21 | exact U22 | exact U23) (by rfl) ?_)
          refine SPL_nil ?_
          refine thenP_n ?_
          refine SP_region ?_
          refine SPL_y (y_loads Tryz.isAgg42 Tryz.sizeOf42 rfl rfl (by repeat (first | exact Cells.all _ | exact Cells.amid hpre rfl (by decide) | exact Cells.head rfl | apply Cells.tail))) rfl ?_
          refine SPL_one rfl (SP1_storeAll Tryz.sizeOf42 rfl rfl rfl rfl rfl (by first | exact U0 | exact U1 | exact U2 | exact U3 | exact U4 | exact U5 | exact U6 | exact U7 | exact U8 | exact U9 | exact U10 | exact U11 | exact U12 | exact U13 | exact U14 | exact U15 | exact U16 | exact U17 | exact U18 | exact U19 | exact U20 | exact U21 | exact U22 | exact U23) (by rfl) ?_)
          refine SPL_nil ?_
          refine inBlockP_n ?_
          refine thenP_n ?_
          exact Mid.intro (((nextW m3.ts ak z1).1, (nextW m3.ts ak z1).2.1, eb, hb, m3, List.flatten [A, sB])) (⟨Gr.refl _ _, (by rw [← hsE]; exact hM3), hP⟩) (by repeat (first | exact Sub.nil _ | refine Sub.cons rfl ?_)) (by repeat (first | exact Part.nil _ | (apply Part.cons; with_reducible (first | exact P0 | exact P1 | exact P2 | exact P3 | exact P4 | exact P5 | exact P6 | exact P7 | exact P8 | exact P9 | exact P10 | exact P11 | exact P12 | exact P13 | exact P14 | exact P15 | exact P16 | exact P17 | exact P18 | exact P19 | exact P20 | exact P21 | exact P22 | exact P23)) | (apply Part.flat; simp only [List.cons_append, List.nil_append]) | (apply Part.cons; (first | exact P0 | exact P1 | exact P2 | exact P3 | exact P4 | exact P5 | exact P6 | exact P7 | exact P8 | exact P9 | exact P10 | exact P11 | exact P12 | exact P13 | exact P14 | exact P15 | exact P16 | exact P17 | exact P18 | exact P19 | exact P20 | exact P21 | exact P22 | exact P23)) | (apply Part.nilc)))
        intro h46_0
        first | rw [if_neg h46_0] at hP | rw [if_pos (Decidable.not_not.1 h46_0)] at hP | skip
        refine SPL_y (y_assign rfl) rfl ?_
        refine SPL_nil ?_
        refine thenP_n ?_
        refine SP_cond_f rfl ?_
        refine SP_seq ?_
        refine SP_region ?_
        refine SPL_if (y_eql rfl rfl) rfl ?_ ?_
        · intro h54_0
          first | rw [if_pos h54_0] at hP | rw [if_neg h54_0] at hP | skip
          refine SPL_y (y_assign rfl) rfl ?_
          refine SPL_nil ?_
          refine thenP_n ?_
          refine SP_cond_t rfl ?_
          refine SP_seq ?_
          refine SP_seq ?_
          unfold rcreate at hP
          refine SP_region ?_
          refine SPL_y (y_fa fld_42_0 rfl) rfl ?_
          refine SPL_y (y_load Tryz.isAgg3 rfl (by repeat (first | exact Cell.amid hpre rfl | exact Cell.head rfl | apply Cell.tail))) rfl ?_
          refine SPL_if (y_neq rfl rfl) rfl ?_ ?_
          · intro h55_2
            first | rw [if_pos h55_2] at hP | rw [if_neg h55_2] at hP | skip
            refine SPL_nil ?_
            refine thenP_n ?_
            refine SP_cond_t rfl ?_
            refine SP_seq ?_
            refine SP_region ?_
            refine SPL_y (y_move rfl) rfl ?_
            refine SPL_one rfl (SP1_call (cm_raise x eb hb hP _ hM3) Tryz.call104 rfl rfl (by repeat (first | exact Part.nil _ | (apply Part.cons; with_reducible (first | exact P0 | exact P1 | exact P2 | exact P3 | exact P4 | exact P5 | exact P6 | exact P7 | exact P8 | exact P9 | exact P10 | exact P11 | exact P12 | exact P13 | exact P14 | exact P15 | exact P16 | exact P17 | exact P18 | exact P19 | exact P20 | exact P21 | exact P22 | exact P23)) | (apply Part.flat; simp only [List.cons_append, List.nil_append]) | (apply Part.cons; (first | exact P0 | exact P1 | exact P2 | exact P3 | exact P4 | exact P5 | exact P6 | exact P7 | exact P8 | exact P9 | exact P10 | exact P11 | exact P12 | exact P13 | exact P14 | exact P15 | exact P16 | exact P17 | exact P18 | exact P19 | exact P20 | exact P21 | exact P22 | exact P23)) | (apply Part.nilc))) ?_)
            rintro v post H' ⟨rfl, sg9, hM9, rfl⟩ hH
            try simp only [List.cons_append, List.nil_append] at hH
            subst hH
            refine SPL_nil ?_
            refine thenP_n ?_
            refine SP_ret ?_
            refine thenP_ret (inBlockP_ret (thenP_ret (bodyP_ret (H' := [sg9]) (Res0 rfl) (by repeat (first | exact Part.nil _ | (apply Part.cons; with_reducible (first | exact P0 | exact P1 | exact P2 | exact P3 | exact P4 | exact P5 | exact P6 | exact P7 | exact P8 | exact P9 | exact P10 | exact P11 | exact P12 | exact P13 | exact P14 | exact P15 | exact P16 | exact P17 | exact P18 | exact P19 | exact P20 | exact P21 | exact P22 | exact P23)) | (apply Part.flat; simp only [List.cons_append, List.nil_append]) | (apply Part.cons; (first | exact P0 | exact P1 | exact P2 | exact P3 | exact P4 | exact P5 | exact P6 | exact P7 | exact P8 | exact P9 | exact P10 | exact P11 | exact P12 | exact P13 | exact P14 | exact P15 | exact P16 | exact P17 | exact P18 | exact P19 | exact P20 | exact P21 | exact P22 | exact P23)) | (apply Part.nilc))) ?_)))
            exact ⟨rfl, eb, hb, _, Gr.refl _ _, hM9, rfl⟩
          intro h55_2
          first | rw [if_neg h55_2] at hP | rw [if_pos (Decidable.not_not.1 h55_2)] at hP | skip
          refine SPL_nil ?_
          refine thenP_n ?_
          refine SP_cond_f rfl ?_
          refine SP_skip ?_
          refine thenP_n ?_
          refine SP_seq ?_
          refine SP_seq ?_
          refine SP_region ?_
          refine SPL_y (y_move rfl) rfl ?_
          refine SPL_y (y_nil rfl) rfl ?_
          refine SPL_y (y_fa fld_142_5 rfl) rfl ?_
          refine SPL_y (y_load Tryz.isAgg139 rfl (by repeat (first | exact hTa3 _ | apply Cell.tail))) rfl ?_
          refine SPL_y (y_len_l Tryz.underlying139 rfl) rfl ?_
          refine SPL_if (y_geq rfl rfl) rfl ?_ ?_
          · intro h57_5
            first | rw [if_pos h57_5] at hP | rw [if_neg h57_5] at hP | skip
            refine SPL_nil ?_
            refine thenP_n ?_
            refine SP_cond_t rfl ?_
            refine SP_seq ?_
            rw [if_pos (by omega)] at hP
            injection hP with hP
            subst hP
            refine SP_region ?_
            refine SPL_y (y_move rfl) rfl ?_
            refine SPL_one rfl (SP1_call (cm_fin x eb hb 8 [45] _ hM3) Tryz.call158 rfl rfl (by repeat (first | exact Part.nil _ | (apply Part.cons; with_reducible (first | exact P0 | exact P1 | exact P2 | exact P3 | exact P4 | exact P5 | exact P6 | exact P7 | exact P8 | exact P9 | exact P10 | exact P11 | exact P12 | exact P13 | exact P14 | exact P15 | exact P16 | exact P17 | exact P18 | exact P19 | exact P20 | exact P21 | exact P22 | exact P23)) | (apply Part.flat; simp only [List.cons_append, List.nil_append]) | (apply Part.cons; (first | exact P0 | exact P1 | exact P2 | exact P3 | exact P4 | exact P5 | exact P6 | exact P7 | exact P8 | exact P9 | exact P10 | exact P11 | exact P12 | exact P13 | exact P14 | exact P15 | exact P16 | exact P17 | exact P18 | exact P19 | exact P20 | exact P21 | exact P22 | exact P23)) | (apply Part.nilc))) ?_)
            rintro v post H' ⟨rfl, sg9, hM9, rfl⟩ hH
            try simp only [List.cons_append, List.nil_append] at hH
            subst hH
            refine SPL_nil ?_
            refine thenP_n ?_
            refine SP_ret ?_
            refine thenP_ret (inBlockP_ret (thenP_ret (bodyP_ret (H' := [sg9]) (Res0 rfl) (by repeat (first | exact Part.nil _ | (apply Part.cons; with_reducible (first | exact P0 | exact P1 | exact P2 | exact P3 | exact P4 | exact P5 | exact P6 | exact P7 | exact P8 | exact P9 | exact P10 | exact P11 | exact P12 | exact P13 | exact P14 | exact P15 | exact P16 | exact P17 | exact P18 | exact P19 | exact P20 | exact P21 | exact P22 | exact P23)) | (apply Part.flat; simp only [List.cons_append, List.nil_append]) | (apply Part.cons; (first | exact P0 | exact P1 | exact P2 | exact P3 | exact P4 | exact P5 | exact P6 | exact P7 | exact P8 | exact P9 | exact P10 | exact P11 | exact P12 | exact P13 | exact P14 | exact P15 | exact P16 | exact P17 | exact P18 | exact P19 | exact P20 | exact P21 | exact P22 | exact P23)) | (apply Part.nilc))) ?_)))
            exact ⟨rfl, eb, hb, _, Gr.refl _ _, hM9, rfl⟩
          intro h57_5
          first | rw [if_neg h57_5] at hP | rw [if_pos (Decidable.not_not.1 h57_5)] at hP | skip
          refine SPL_nil ?_
          refine thenP_n ?_
          refine SP_cond_f rfl ?_
          refine SP_skip ?_
          refine thenP_n ?_
          refine SP_seq ?_
          rw [if_neg (by omega)] at hP
          have hak0 : 0 ≤ z0.n ∧ z0.n < 1000000 := Decidable.byContradiction fun q => by rw [if_neg q] at hP; cases hP
          rw [if_pos hak0] at hP
          obtain ⟨ak, hak⟩ : ∃ k : Nat, z0.n = k := ⟨z0.n.toNat, by omega⟩
          rw [hak] at hP
          obtain ⟨ca, cc, ha, hc, s0, s1, s2, s3, s4, A, sH, Z, hsE, hHA, hputN⟩ := isRm_newTh hM3 hg5
          rw [hsE]
          refine SP_openAt [blk x.b 142 [ptr x.nb, ptr x.tb, Value.slice x.na m3.nodes.length x.nc, I m3.root, Value.slice ca m3.clos.length cc, Value.slice ha m3.ths.length hc, I s0, I s1, I s2, I s3, I s4, I m3.sp, I m3.cur, I m3.fuel, I m3.first, S m3.out, .bool m3.done, I m3.ans.e, I m3.ans.n, I m3.ans.m, S m3.ans.s, S m3.ans.t], A, sH, Z] (by first | exact P0 | exact P1 | exact P2 | exact P3 | exact P4 | exact P5 | exact P6 | exact P7 | exact P8 | exact P9 | exact P10 | exact P11 | exact P12 | exact P13 | exact P14 | exact P15 | exact P16 | exact P17 | exact P18 | exact P19 | exact P20 | exact P21 | exact P22 | exact P23) ?_
          simp only [List.cons_append, List.nil_append]
          refine SP_draw 11 [(0, 0), (1, 0), (2, 0), (3, 0), (5, 0), (4, 1), (6, 1), (7, 0), (8, 0), (9, 2), (10, 2), (11, 3), (12, 0), (13, 0), (14, 3)] mixed (by kernel_rfl) (fun _ _ _ _ _ h => h) (Part.refl _) ?_
          refine SPO_p rfl (y_move rfl) rfl ?_
          refine SPO_p rfl (y_move rfl) rfl ?_
          refine SPO_p rfl (y_nil rfl) rfl ?_
          refine SPO_p rfl (y_fa fld_142_5 rfl) rfl ?_
          refine SPO_p rfl (y_fa fld_42_1 rfl) rfl ?_
          refine SPO_h rfl (y_load Tryz.isAgg139 rfl (by repeat (first | exact Cell.amid hpre rfl | exact Cell.head rfl | apply Cell.tail))) rfl ?_
          refine SPO_h rfl (y_load Tryz.isAgg40 rfl (by repeat (first | exact Cell.amid hpre rfl | exact Cell.head rfl | apply Cell.tail))) rfl ?_
          refine SPO_p rfl (y_conv Tryz.underlying40 Tryz.underlying3 rfl (show IntKind.i64.wrap z0.n = ((ak : Nat) : Int) by rw [hak, IntKind.wrap_i64]; omega)) rfl ?_
          refine SPO_p rfl (y_build B152 rfl rfl (by simp only [fillL, List.foldl_cons, List.foldl_nil, List.set_cons_zero, List.set_cons_succ]; exact rfl)) rfl ?_
          refine SPO_a rfl rfl (SP1_box rfl rfl rfl ?_)
          intro b222
          refine ⟨⟨_, (by repeat (first | exact Part.nil _ | (apply Part.cons; with_reducible (first | exact P0 | exact P1 | exact P2 | exact P3 | exact P4 | exact P5 | exact P6 | exact P7 | exact P8 | exact P9 | exact P10 | exact P11 | exact P12 | exact P13 | exact P14 | exact P15 | exact P16 | exact P17 | exact P18 | exact P19 | exact P20 | exact P21 | exact P22 | exact P23)) | (apply Part.flat; simp only [List.cons_append, List.nil_append]) | (apply Part.cons; (first | exact P0 | exact P1 | exact P2 | exact P3 | exact P4 | exact P5 | exact P6 | exact P7 | exact P8 | exact P9 | exact P10 | exact P11 | exact P12 | exact P13 | exact P14 | exact P15 | exact P16 | exact P17 | exact P18 | exact P19 | exact P20 | exact P21 | exact P22 | exact P23)) | (apply Part.nilc)))⟩, ?_⟩
          refine SPO_a rfl rfl (SP1_slice1 el_139 rfl rfl rfl rfl rfl ?_)
          intro b223
          refine ⟨⟨_, (by repeat (first | exact Part.nil _ | (apply Part.cons; with_reducible (first | exact P0 | exact P1 | exact P2 | exact P3 | exact P4 | exact P5 | exact P6 | exact P7 | exact P8 | exact P9 | exact P10 | exact P11 | exact P12 | exact P13 | exact P14 | exact P15 | exact P16 | exact P17 | exact P18 | exact P19 | exact P20 | exact P21 | exact P22 | exact P23)) | (apply Part.flat; simp only [List.cons_append, List.nil_append]) | (apply Part.cons; (first | exact P0 | exact P1 | exact P2 | exact P3 | exact P4 | exact P5 | exact P6 | exact P7 | exact P8 | exact P9 | exact P10 | exact P11 | exact P12 | exact P13 | exact P14 | exact P15 | exact P16 | exact P17 | exact P18 | exact P19 | exact P20 | exact P21 | exact P22 | exact P23)) | (apply Part.nilc)))⟩, ?_⟩
          refine SPO_z (k := 0) rfl rfl (SP1_append el_139 (.inl Tryz.underlying139) rfl rfl hHA (by first | exact P0 | exact P1 | exact P2 | exact P3 | exact P4 | exact P5 | exact P6 | exact P7 | exact P8 | exact P9 | exact P10 | exact P11 | exact P12 | exact P13 | exact P14 | exact P15 | exact P16 | exact P17 | exact P18 | exact P19 | exact P20 | exact P21 | exact P22 | exact P23) (Src.of (by repeat (first | exact Cells.all _ | exact Cells.amid hpre rfl (by decide) | exact Cells.head rfl | apply Cells.tail)) (by rfl)) (by rfl) (by omega) rfl ?_)
          intro ha' hc' sH' hHA2
          refine SPO_p rfl (y_nil rfl) rfl ?_
          refine SPO_p rfl (y_fa fld_142_5 rfl) rfl ?_
          refine SPO_z (k := 0) rfl rfl (SP1_store Tryz.sizeOf139 rfl rfl rfl (by first | exact U0 | exact U1 | exact U2 | exact U3 | exact U4 | exact U5 | exact U6 | exact U7 | exact U8 | exact U9 | exact U10 | exact U11 | exact U12 | exact U13 | exact U14 | exact U15 | exact U16 | exact U17 | exact U18 | exact U19 | exact U20 | exact U21 | exact U22 | exact U23) (by rfl) ?_)
          refine SPO_nil ?_
          refine thenP_n ?_
          obtain ⟨sgN, hMN, hpt⟩ := hputN b222 (ak : Int) ha' hc' sH' (by simpa using hHA2)
          refine SP_part (H' := [blk x.b 142 [ptr x.nb, ptr x.tb, Value.slice x.na m3.nodes.length x.nc, I m3.root, Value.slice ca m3.clos.length cc, Value.slice ha' (m3.ths.length + 1) hc', I s0, I s1, I s2, I s3, I s4, I m3.sp, I m3.cur, I m3.fuel, I m3.first, S m3.out, .bool m3.done, I m3.ans.e, I m3.ans.n, I m3.ans.m, S m3.ans.s, S m3.ans.t], A, sH', Z, blk b222 152 [I 1, I (ak : Int), I 0, Value.slice none 0 0, Value.slice none 0 0], blk b10 42 [.int .i64 0, .int .u64 0, S []], blk b11 42 [.int .i64 0, .int .u64 0, S []]]) (by repeat (first | exact Part.nil _ | (apply Part.cons; with_reducible (first | exact P0 | exact P1 | exact P2 | exact P3 | exact P4 | exact P5 | exact P6 | exact P7 | exact P8 | exact P9 | exact P10 | exact P11 | exact P12 | exact P13 | exact P14 | exact P15 | exact P16 | exact P17 | exact P18 | exact P19 | exact P20 | exact P21 | exact P22 | exact P23)) | (apply Part.flat; simp only [List.cons_append, List.nil_append]) | (apply Part.cons; (first | exact P0 | exact P1 | exact P2 | exact P3 | exact P4 | exact P5 | exact P6 | exact P7 | exact P8 | exact P9 | exact P10 | exact P11 | exact P12 | exact P13 | exact P14 | exact P15 | exact P16 | exact P17 | exact P18 | exact P19 | exact P20 | exact P21 | exact P22 | exact P23)) | (apply Part.nilc))) ?_
          refine SP_part (hpt [blk b10 42 [.int .i64 0, .int .u64 0, S []], blk b11 42 [.int .i64 0, .int .u64 0, S []]]) ?_
          obtain ⟨hkN, hcN, _, _, _, _, hTN, _, _, _, _⟩ := hMN.thr (c := 0) (by simp)
          have hTN2 : ∀ H : Hp, Cell (sgN :: H) x.b (0 + 5) (.slice (some ⟨hkN, 0, none⟩) (m3.ths.length + 1) hcN) := fun H => by have := hTN H; simpa using this
          refine SP_region ?_
          refine SPL_y (y_move rfl) rfl ?_
          refine SPL_y (y_nil rfl) rfl ?_
          refine SPL_y (y_fa fld_142_5 rfl) rfl ?_
          refine SPL_y (y_load Tryz.isAgg139 rfl (by repeat (first | exact hTN2 _ | apply Cell.tail))) rfl ?_
          refine SPL_y (y_len_l Tryz.underlying139 rfl) rfl ?_
          refine SPL_y (y_sub rfl rfl (by omega)) rfl ?_
          refine SPL_y (y_conv Tryz.underlying3 Tryz.underlying40 rfl (show IntKind.u64.wrap (((m3.ths.length + 1 : Nat) : Int) - 1) = ((m3.ths.length : Nat) : Int) by rw [show ((m3.ths.length + 1 : Nat) : Int) - 1 = ((m3.ths.length : Nat) : Int) by omega]; exact u64n (by omega))) rfl ?_
          refine SPL_y (y_build B42 rfl rfl (by simp only [fillL, List.foldl_cons, List.foldl_nil, List.set_cons_zero, List.set_cons_succ]; exact rfl)) rfl ?_
          refine SPL_one rfl (SP1_storeAll Tryz.sizeOf42 rfl rfl rfl rfl rfl (by first | exact U0 | exact U1 | exact U2 | exact U3 | exact U4 | exact U5 | exact U6 | exact U7 | exact U8 | exact U9 | exact U10 | exact U11 | exact U12 | exact U13 | exact U14 | exact U15 | exact U16 | exact U17 | exact U18 | exact U19 | exact U20 | exact U21 | exact U22 | exact U23) (by rfl) ?_)
          refine SPL_nil ?_
          refine inBlockP_n ?_
          refine thenP_n ?_
          exact Mid.intro ((⟨7, m3.ths.length, []⟩, V.nil, eb, hb ++ [b222], { m3 with ths := m3.ths ++ [⟨1, (ak : Int), 0, [], []⟩] }, sgN)) (⟨⟨List.prefix_refl _, List.prefix_append _ _⟩, hMN, hP⟩) (by repeat (first | exact Sub.nil _ | refine Sub.cons rfl ?_)) (by repeat (first | exact Part.nil _ | (apply Part.cons; with_reducible (first | exact P0 | exact P1 | exact P2 | exact P3 | exact P4 | exact P5 | exact P6 | exact P7 | exact P8 | exact P9 | exact P10 | exact P11 | exact P12 | exact P13 | exact P14 | exact P15 | exact P16 | exact P17 | exact P18 | exact P19 | exact P20 | exact P21 | exact P22 | exact P23)) | (apply Part.flat; simp only [List.cons_append, List.nil_append]) | (apply Part.cons; (first | exact P0 | exact P1 | exact P2 | exact P3 | exact P4 | exact P5 | exact P6 | exact P7 | exact P8 | exact P9 | exact P10 | exact P11 | exact P12 | exact P13 | exact P14 | exact P15 | exact P16 | exact P17 | exact P18 | exact P19 | exact P20 | exact P21 | exact P22 | exact P23)) | (apply Part.nilc)))
        intro h54_0
        first | rw [if_neg h54_0] at hP | rw [if_pos (Decidable.not_not.1 h54_0)] at hP | skip
        refine SPL_y (y_assign rfl) rfl ?_
        refine SPL_nil ?_
        refine thenP_n ?_
        refine SP_cond_f rfl ?_
        refine SP_seq ?_
        refine SP_region ?_
        refine SPL_ifn (y_eql rfl rfl) rfl ?_ ?_
        · intro h61_0
          first | rw [if_neg h61_0] at hP | rw [if_pos (Decidable.not_not.1 h61_0)] at hP | skip
          refine SPL_y (y_assign rfl) rfl ?_
          refine SPL_nil ?_
          refine thenP_n ?_
          refine SP_cond_f rfl ?_
          refine SP_seq ?_
          refine SP_region ?_
          refine SPL_ifn (y_eql rfl rfl) rfl ?_ ?_
          · intro h80_0
            first | rw [if_neg h80_0] at hP | rw [if_pos (Decidable.not_not.1 h80_0)] at hP | skip
            refine SPL_y (y_assign rfl) rfl ?_
            refine SPL_nil ?_
            refine thenP_n ?_
            refine SP_cond_f rfl ?_
            refine SP_seq ?_
            refine SP_region ?_
            refine SPL_ifn (y_eql rfl rfl) rfl ?_ ?_
            · intro h89_0
              first | rw [if_neg h89_0] at hP | rw [if_pos (Decidable.not_not.1 h89_0)] at hP | skip
              refine SPL_y (y_assign rfl) rfl ?_
              refine SPL_nil ?_
              refine thenP_n ?_
              refine SP_cond_f rfl ?_
              refine SP_skip ?_
              refine inBlockP_n ?_
              refine thenP_n ?_
              exact Mid.intro ((V.nil, V.nil, eb, hb, m3, sg3)) (⟨Gr.refl _ _, hM3, hP⟩) (by repeat (first | exact Sub.nil _ | refine Sub.cons rfl ?_)) (by repeat (first | exact Part.nil _ | (apply Part.cons; with_reducible (first | exact P0 | exact P1 | exact P2 | exact P3 | exact P4 | exact P5 | exact P6 | exact P7 | exact P8 | exact P9 | exact P10 | exact P11 | exact P12 | exact P13 | exact P14 | exact P15 | exact P16 | exact P17 | exact P18 | exact P19 | exact P20 | exact P21 | exact P22 | exact P23)) | (apply Part.flat; simp only [List.cons_append, List.nil_append]) | (apply Part.cons; (first | exact P0 | exact P1 | exact P2 | exact P3 | exact P4 | exact P5 | exact P6 | exact P7 | exact P8 | exact P9 | exact P10 | exact P11 | exact P12 | exact P13 | exact P14 | exact P15 | exact P16 | exact P17 | exact P18 | exact P19 | exact P20 | exact P21 | exact P22 | exact P23)) | (apply Part.nilc)))
            intro h89_0
            first | rw [if_pos h89_0] at hP | rw [if_neg h89_0] at hP | skip
            refine SPL_y (y_assign rfl) rfl ?_
            refine SPL_nil ?_
            refine thenP_n ?_
            refine SP_cond_t rfl ?_
            refine SP_seq ?_
            refine SP_seq ?_
            unfold rstatus at hP
            refine SP_region ?_
            refine SPL_y (y_fa fld_42_0 rfl) rfl ?_
            refine SPL_y (y_load Tryz.isAgg3 rfl (by repeat (first | exact Cell.amid hpre rfl | exact Cell.head rfl | apply Cell.tail))) rfl ?_
            refine SPL_if (y_neq rfl rfl) rfl ?_ ?_
            · intro h90_2
              first | rw [if_pos h90_2] at hP | rw [if_neg h90_2] at hP | skip
              refine SPL_nil ?_
              refine thenP_n ?_
              refine SP_cond_t rfl ?_
              refine SP_seq ?_
              refine SP_region ?_
              refine SPL_y (y_move rfl) rfl ?_
              refine SPL_one rfl (SP1_call (cm_raise x eb hb hP _ hM3) Tryz.call104 rfl rfl (by repeat (first | exact Part.nil _ | (apply Part.cons; with_reducible (first | exact P0 | exact P1 | exact P2 | exact P3 | exact P4 | exact P5 | exact P6 | exact P7 | exact P8 | exact P9 | exact P10 | exact P11 | exact P12 | exact P13 | exact P14 | exact P15 | exact P16 | exact P17 | exact P18 | exact P19 | exact P20 | exact P21 | exact P22 | exact P23)) | (apply Part.flat; simp only [List.cons_append, List.nil_append]) | (apply Part.cons; (first | exact P0 | exact P1 | exact P2 | exact P3 | exact P4 | exact P5 | exact P6 | exact P7 | exact P8 | exact P9 | exact P10 | exact P11 | exact P12 | exact P13 | exact P14 | exact P15 | exact P16 | exact P17 | exact P18 | exact P19 | exact P20 | exact P21 | exact P22 | exact P23)) | (apply Part.nilc))) ?_)
              rintro v post H' ⟨rfl, sg9, hM9, rfl⟩ hH
              try simp only [List.cons_append, List.nil_append] at hH
              subst hH
              refine SPL_nil ?_
              refine thenP_n ?_
              refine SP_ret ?_
              refine thenP_ret (inBlockP_ret (thenP_ret (bodyP_ret (H' := [sg9]) (Res0 rfl) (by repeat (first | exact Part.nil _ | (apply Part.cons; with_reducible (first | exact P0 | exact P1 | exact P2 | exact P3 | exact P4 | exact P5 | exact P6 | exact P7 | exact P8 | exact P9 | exact P10 | exact P11 | exact P12 | exact P13 | exact P14 | exact P15 | exact P16 | exact P17 | exact P18 | exact P19 | exact P20 | exact P21 | exact P22 | exact P23)) | (apply Part.flat; simp only [List.cons_append, List.nil_append]) | (apply Part.cons; (first | exact P0 | exact P1 | exact P2 | exact P3 | exact P4 | exact P5 | exact P6 | exact P7 | exact P8 | exact P9 | exact P10 | exact P11 | exact P12 | exact P13 | exact P14 | exact P15 | exact P16 | exact P17 | exact P18 | exact P19 | exact P20 | exact P21 | exact P22 | exact P23)) | (apply Part.nilc))) ?_)))
              exact ⟨rfl, eb, hb, _, Gr.refl _ _, hM9, rfl⟩
            intro h90_2
            first | rw [if_neg h90_2] at hP | rw [if_pos (Decidable.not_not.1 h90_2)] at hP | skip
            refine SPL_nil ?_
            refine thenP_n ?_
            refine SP_cond_f rfl ?_
            refine SP_skip ?_
            refine thenP_n ?_
            refine SP_seq ?_
            have hak0 : 0 ≤ z0.n ∧ z0.n < m3.ths.length ∧ m3.ths.length ≤ 1000 := Decidable.byContradiction fun q => by rw [if_neg q] at hP; cases hP
            rw [if_pos hak0] at hP
            obtain ⟨ak, hak⟩ : ∃ k : Nat, z0.n = k := ⟨z0.n.toNat, by omega⟩
            have haj : ak < m3.ths.length := by omega
            rw [hak, Int.toNat_natCast, getD_th haj] at hP
            obtain ⟨hkA, hcA, _, _, _, _, hTaA, hTbA, hTcA, _, _⟩ := hM3.thr haj
            have hTeA : ∀ H : Hp, Cell (sg3 :: H) (hb.getD ak 0) (0 + 0) (I m3.ths[ak].st) := fun H => (hTcA H).cell (j := 0) rfl
            have hTfA : ∀ H : Hp, Cell (sg3 :: H) hkA (0 + ((ak : Nat) : Int).toNat * 1) (ptr (hb.getD ak 0)) := fun H => by simpa using hTbA H
            refine SP_draw 11 [(0, 0), (1, 0), (2, 0), (4, 0), (3, 1), (5, 1), (6, 0), (7, 1), (8, 0), (9, 0), (10, 1), (11, 3), (12, 0)] mixed (by kernel_rfl) (fun _ _ _ _ _ h => h) (Part.refl _) ?_
            refine SPO_p rfl (y_move rfl) rfl ?_
            refine SPO_p rfl (y_nil rfl) rfl ?_
            refine SPO_p rfl (y_fa fld_142_5 rfl) rfl ?_
            refine SPO_p rfl (y_fa fld_42_1 rfl) rfl ?_
            refine SPO_h rfl (y_load Tryz.isAgg139 rfl (by repeat (first | exact hTaA _ | apply Cell.tail))) rfl ?_
            refine SPO_h rfl (y_load Tryz.isAgg40 rfl (by repeat (first | exact Cell.amid hpre rfl | exact Cell.head rfl | apply Cell.tail))) rfl ?_
            rw [hak]
            refine SPO_p rfl (y_ia Tryz.underlying139 Tryz.sizeOf149 rfl rfl (by omega)) rfl ?_
            refine SPO_h rfl (y_load Tryz.isAgg149 rfl (by repeat (first | exact hTfA _ | apply Cell.tail))) rfl ?_
            refine SPO_p rfl (y_nil rfl) rfl ?_
            refine SPO_p rfl (y_fa fld_152_0 rfl) rfl ?_
            refine SPO_h rfl (y_load Tryz.isAgg3 rfl (by repeat (first | exact hTeA _ | apply Cell.tail))) rfl ?_
            refine SPO_z (k := 0) rfl rfl (SP1_call (api_StatusName m3.ths[ak].st) Tryz.call170 rfl rfl (by repeat (first | exact Part.nil _ | (apply Part.cons; with_reducible (first | exact P0 | exact P1 | exact P2 | exact P3 | exact P4 | exact P5 | exact P6 | exact P7 | exact P8 | exact P9 | exact P10 | exact P11 | exact P12 | exact P13 | exact P14 | exact P15 | exact P16 | exact P17 | exact P18 | exact P19 | exact P20 | exact P21 | exact P22 | exact P23)) | (apply Part.flat; simp only [List.cons_append, List.nil_append]) | (apply Part.cons; (first | exact P0 | exact P1 | exact P2 | exact P3 | exact P4 | exact P5 | exact P6 | exact P7 | exact P8 | exact P9 | exact P10 | exact P11 | exact P12 | exact P13 | exact P14 | exact P15 | exact P16 | exact P17 | exact P18 | exact P19 | exact P20 | exact P21 | exact P22 | exact P23)) | (apply Part.nilc))) ?_)
            rintro v post H' ⟨rfl, rfl⟩ hH
            try simp only [List.cons_append, List.nil_append] at hH
            subst hH
            refine SPO_p rfl (y_assign rfl) rfl ?_
            refine SPO_nil ?_
            refine thenP_n ?_
            refine SP_region ?_
            refine SPL_y (y_move rfl) rfl ?_
            refine SPL_y (y_build B42 rfl rfl (by simp only [fillL, List.foldl_cons, List.foldl_nil, List.set_cons_zero, List.set_cons_succ]; exact rfl)) rfl ?_
            refine SPL_one rfl (SP1_storeAll Tryz.sizeOf42 rfl rfl rfl rfl rfl (by first | exact U0 | exact U1 | exact U2 | exact U3 | exact U4 | exact U5 | exact U6 | exact U7 | exact U8 | exact U9 | exact U10 | exact U11 | exact U12 | exact U13 | exact U14 | exact U15 | exact U16 | exact U17 | exact U18 | exact U19 | exact U20 | exact U21 | exact U22 | exact U23) (by rfl) ?_)
            refine SPL_nil ?_
            refine inBlockP_n ?_
            refine thenP_n ?_
            exact Mid.intro ((strK (statusName m3.ths[ak].st), V.nil, eb, hb, m3, sg3)) (⟨Gr.refl _ _, hM3, hP⟩) (by repeat (first | exact Sub.nil _ | refine Sub.cons rfl ?_)) (by repeat (first | exact Part.nil _ | (apply Part.cons; with_reducible (first | exact P0 | exact P1 | exact P2 | exact P3 | exact P4 | exact P5 | exact P6 | exact P7 | exact P8 | exact P9 | exact P10 | exact P11 | exact P12 | exact P13 | exact P14 | exact P15 | exact P16 | exact P17 | exact P18 | exact P19 | exact P20 | exact P21 | exact P22 | exact P23)) | (apply Part.flat; simp only [List.cons_append, List.nil_append]) | (apply Part.cons; (first | exact P0 | exact P1 | exact P2 | exact P3 | exact P4 | exact P5 | exact P6 | exact P7 | exact P8 | exact P9 | exact P10 | exact P11 | exact P12 | exact P13 | exact P14 | exact P15 | exact P16 | exact P17 | exact P18 | exact P19 | exact P20 | exact P21 | exact P22 | exact P23)) | (apply Part.nilc)))
          intro h80_0
          first | rw [if_pos h80_0] at hP | rw [if_neg h80_0] at hP | skip
          refine SPL_y (y_assign rfl) rfl ?_
          refine SPL_nil ?_
          refine thenP_n ?_
          refine SP_cond_t rfl ?_
          refine SP_seq ?_
          refine SP_seq ?_
          unfold ryield at hP
          refine SP_region ?_
          refine SPL_y (y_move rfl) rfl ?_
          refine SPL_y (y_nil rfl) rfl ?_
          refine SPL_y (y_fa fld_142_8 rfl) rfl ?_
          refine SPL_y (y_load Tryz.isAgg3 rfl (by repeat (first | exact hTd3 _ | apply Cell.tail))) rfl ?_
          refine SPL_if (y_eql rfl rfl) rfl ?_ ?_
          · intro h81_4
            first | rw [if_pos h81_4] at hP | rw [if_neg h81_4] at hP | skip
            refine SPL_nil ?_
            refine thenP_n ?_
            refine SP_cond_t rfl ?_
            refine SP_seq ?_
            rw [if_pos (by omega)] at hP
            refine SP_region ?_
            refine SPL_y (y_move rfl) rfl ?_
            refine SPL_one rfl (SP1_call (cm_raise x eb hb hP _ hM3) Tryz.call104 rfl rfl (by repeat (first | exact Part.nil _ | (apply Part.cons; with_reducible (first | exact P0 | exact P1 | exact P2 | exact P3 | exact P4 | exact P5 | exact P6 | exact P7 | exact P8 | exact P9 | exact P10 | exact P11 | exact P12 | exact P13 | exact P14 | exact P15 | exact P16 | exact P17 | exact P18 | exact P19 | exact P20 | exact P21 | exact P22 | exact P23)) | (apply Part.flat; simp only [List.cons_append, List.nil_append]) | (apply Part.cons; (first | exact P0 | exact P1 | exact P2 | exact P3 | exact P4 | exact P5 | exact P6 | exact P7 | exact P8 | exact P9 | exact P10 | exact P11 | exact P12 | exact P13 | exact P14 | exact P15 | exact P16 | exact P17 | exact P18 | exact P19 | exact P20 | exact P21 | exact P22 | exact P23)) | (apply Part.nilc))) ?_)
            rintro v post H' ⟨rfl, sg9, hM9, rfl⟩ hH
            try simp only [List.cons_append, List.nil_append] at hH
            subst hH
            refine SPL_nil ?_
            refine thenP_n ?_
            refine SP_ret ?_
            refine thenP_ret (inBlockP_ret (thenP_ret (bodyP_ret (H' := [sg9]) (Res0 rfl) (by repeat (first | exact Part.nil _ | (apply Part.cons; with_reducible (first | exact P0 | exact P1 | exact P2 | exact P3 | exact P4 | exact P5 | exact P6 | exact P7 | exact P8 | exact P9 | exact P10 | exact P11 | exact P12 | exact P13 | exact P14 | exact P15 | exact P16 | exact P17 | exact P18 | exact P19 | exact P20 | exact P21 | exact P22 | exact P23)) | (apply Part.flat; simp only [List.cons_append, List.nil_append]) | (apply Part.cons; (first | exact P0 | exact P1 | exact P2 | exact P3 | exact P4 | exact P5 | exact P6 | exact P7 | exact P8 | exact P9 | exact P10 | exact P11 | exact P12 | exact P13 | exact P14 | exact P15 | exact P16 | exact P17 | exact P18 | exact P19 | exact P20 | exact P21 | exact P22 | exact P23)) | (apply Part.nilc))) ?_)))
            exact ⟨rfl, eb, hb, _, Gr.refl _ _, hM9, rfl⟩
          intro h81_4
          first | rw [if_neg h81_4] at hP | rw [if_pos (Decidable.not_not.1 h81_4)] at hP | skip
          refine SPL_nil ?_
          refine thenP_n ?_
          refine SP_cond_f rfl ?_
          refine SP_skip ?_
          refine thenP_n ?_
          refine SP_seq ?_
          rw [if_neg (by omega)] at hP
          have hg9 : curOk m3 ∧ (1 ≤ m3.sp ∧ m3.sp ≤ 5) := Decidable.byContradiction fun q => by rw [if_pos q] at hP; cases hP
          rw [if_neg (fun q => q hg9)] at hP
          obtain ⟨_, hsp1⟩ := hg9
          dsimp only at hP
          rw [hth3] at hP
          have hcc := hcc3
          have hc := hc3
          have hth := hth3
          clear hTa3 hTb3 hTc3 hTd3 hTe3
          obtain ⟨ca, cc, hk, hc', hsp, s0, s1, s2, s3, s4, sX, sA, sZ, R, ta, tc, va, vc, sa, sv, rfl, hstk, hhl, hTA, hVA, hTS, hput⟩ := isRm_open hM3 hc
          refine SP_openAt [blk x.b 142 [ptr x.nb, ptr x.tb, Value.slice x.na m3.nodes.length x.nc, I m3.root, Value.slice ca m3.clos.length cc, Value.slice (some ⟨hk, 0, none⟩) m3.ths.length hc', I s0, I s1, I s2, I s3, I s4, I m3.sp, I m3.cur, I m3.fuel, I m3.first, S m3.out, .bool m3.done, I m3.ans.e, I m3.ans.n, I m3.ans.m, S m3.ans.s, S m3.ans.t], sX, blk hk 149 (hb.map ptr ++ hsp), sA, List.flatten [blk (hb.getD c 0) 152 [I m3.ths[c].st, I m3.ths[c].fn, I (m3.ths[c].depth), Value.slice ta (m3.ths[c].tasks.length) tc, Value.slice va (m3.ths[c].vals.length) vc], sa, sv], sZ, R] (by first | exact P0 | exact P1 | exact P2 | exact P3 | exact P4 | exact P5 | exact P6 | exact P7 | exact P8 | exact P9 | exact P10 | exact P11 | exact P12 | exact P13 | exact P14 | exact P15 | exact P16 | exact P17 | exact P18 | exact P19 | exact P20 | exact P21 | exact P22 | exact P23) ?_
          simp only [List.cons_append, List.nil_append]
          refine SP_openAt [blk (hb.getD c 0) 152 [I m3.ths[c].st, I m3.ths[c].fn, I (m3.ths[c].depth), Value.slice ta (m3.ths[c].tasks.length) tc, Value.slice va (m3.ths[c].vals.length) vc], sa, sv] (by first | exact P0 | exact P1 | exact P2 | exact P3 | exact P4 | exact P5 | exact P6 | exact P7 | exact P8 | exact P9 | exact P10 | exact P11 | exact P12 | exact P13 | exact P14 | exact P15 | exact P16 | exact P17 | exact P18 | exact P19 | exact P20 | exact P21 | exact P22 | exact P23) ?_
          simp only [List.cons_append, List.nil_append]
          have hcell : ∀ H : Hp, Cell (blk hk 149 (hb.map ptr ++ hsp) :: H) hk (0 + ((c : Nat) : Int).toNat * 1) (ptr (hb.getD c 0)) := fun H => Cell.head (hb_at hhl hc)
          rw [hcc]
          refine SP_region ?_
          refine SPL_y (y_move rfl) rfl ?_
          refine SPL_y (y_nil rfl) rfl ?_
          refine SPL_y (y_fa fld_152_0 rfl) rfl ?_
          refine SPL_one rfl (SP1_store Tryz.sizeOf3 rfl rfl rfl (by first | exact U0 | exact U1 | exact U2 | exact U3 | exact U4 | exact U5 | exact U6 | exact U7 | exact U8 | exact U9 | exact U10 | exact U11 | exact U12 | exact U13 | exact U14 | exact U15 | exact U16 | exact U17 | exact U18 | exact U19 | exact U20 | exact U21 | exact U22 | exact U23) (by rfl) ?_)
          refine SPL_nil ?_
          refine thenP_n ?_
          refine SP_seq ?_
          refine SP_region ?_
          refine SPL_y (y_move rfl) rfl ?_
          refine SPL_y (y_nil rfl) rfl ?_
          refine SPL_y (y_fa fld_142_7 rfl) rfl ?_
          refine SPL_y (y_load Tryz.isAgg3 rfl (by repeat (first | exact Cell.amid hpre rfl | exact Cell.head rfl | apply Cell.tail))) rfl ?_
          refine SPL_y (y_sub rfl rfl (by omega)) rfl ?_
          refine SPL_y (y_nil rfl) rfl ?_
          refine SPL_y (y_fa fld_142_7 rfl) rfl ?_
          refine SPL_one rfl (SP1_store Tryz.sizeOf3 rfl rfl rfl (by first | exact U0 | exact U1 | exact U2 | exact U3 | exact U4 | exact U5 | exact U6 | exact U7 | exact U8 | exact U9 | exact U10 | exact U11 | exact U12 | exact U13 | exact U14 | exact U15 | exact U16 | exact U17 | exact U18 | exact U19 | exact U20 | exact U21 | exact U22 | exact U23) (by rfl) ?_)
          refine SPL_nil ?_
          refine thenP_n ?_
          refine SP_seq ?_
          obtain ⟨j5, hj⟩ : ∃ j : Nat, m3.sp - 1 = j := ⟨(m3.sp - 1).toNat, by omega⟩
          have hj5 : j5 < 5 := by omega
          obtain ⟨m6, hm6⟩ : ∃ q : RnM, { (rset m3 { m3.ths[c] with st := 2 }) with sp := m3.sp - 1, cur := m3.stk.getD (m3.sp - 1).toNat 0 } = q := ⟨_, rfl⟩
          have hP6 : (if ¬ curOk m6 then none else rfin2 ⟨1, 1, []⟩ z0 (rset m6 { thG m6 with st := 4 })) = some m' := by rw [← hm6]; exact hP
          clear hP
          have hco6 : curOk m6 := Decidable.byContradiction fun q => by rw [if_pos q] at hP6; cases hP6
          rw [if_neg (fun q => q hco6)] at hP6
          obtain ⟨c6, hcc6⟩ : ∃ k : Nat, m6.cur = k := ⟨m6.cur.toNat, by have := hco6.1; omega⟩
          have hcu6 : m3.stk.getD j5 0 = c6 := by rw [← hcc6, ← hm6]; show _ = m3.stk.getD (m3.sp - 1).toNat 0; rw [hj]; rfl
          rw [hj]
          have hstc : ∀ H : Hp, Cell (blk x.b 142 [ptr x.nb, ptr x.tb, Value.slice x.na m3.nodes.length x.nc, I m3.root, Value.slice ca m3.clos.length cc, Value.slice (some ⟨hk, 0, none⟩) m3.ths.length hc', I s0, I s1, I s2, I s3, I s4, I (j5 : Int), I (c : Int), I m3.fuel, I m3.first, S m3.out, .bool m3.done, I m3.ans.e, I m3.ans.n, I m3.ans.m, S m3.ans.s, S m3.ans.t] :: H) x.b (0 + 6 + ((j5 : Nat) : Int).toNat * 1) (I (c6 : Int)) := fun H => Cell.head (by rw [st_at hj5, ← hcu6, hstk])
          refine SP_draw 12 [(0, 0), (1, 0), (2, 0), (3, 0), (4, 0), (6, 0), (7, 0), (5, 1), (8, 0), (9, 1), (10, 0), (11, 0), (12, 3)] mixed (by kernel_rfl) (fun _ _ _ _ _ h => h) (Part.refl _) ?_
          refine SPO_p rfl (y_move rfl) rfl ?_
          refine SPO_p rfl (y_move rfl) rfl ?_
          refine SPO_p rfl (y_move rfl) rfl ?_
          refine SPO_p rfl (y_nil rfl) rfl ?_
          refine SPO_p rfl (y_fa fld_142_7 rfl) rfl ?_
          refine SPO_p rfl (y_nil rfl) rfl ?_
          refine SPO_p rfl (y_fa fld_142_6 rfl) rfl ?_
          refine SPO_h rfl (y_load Tryz.isAgg3 rfl (by repeat (first | exact Cell.amid hpre rfl | exact Cell.head rfl | apply Cell.tail))) rfl ?_
          refine SPO_p rfl (y_ia_arr Tryz.underlying140 Tryz.sizeOf3 rfl rfl (by omega)) rfl ?_
          refine SPO_h rfl (y_load Tryz.isAgg3 rfl (by repeat (first | exact hstc _ | apply Cell.tail))) rfl ?_
          refine SPO_p rfl (y_nil rfl) rfl ?_
          refine SPO_p rfl (y_fa fld_142_8 rfl) rfl ?_
          refine SPO_z (k := 0) rfl rfl (SP1_store Tryz.sizeOf3 rfl rfl rfl (by first | exact U0 | exact U1 | exact U2 | exact U3 | exact U4 | exact U5 | exact U6 | exact U7 | exact U8 | exact U9 | exact U10 | exact U11 | exact U12 | exact U13 | exact U14 | exact U15 | exact U16 | exact U17 | exact U18 | exact U19 | exact U20 | exact U21 | exact U22 | exact U23) (by rfl) ?_)
          refine SPO_nil ?_
          refine thenP_n ?_
          refine SP_seq ?_
          have hM6 : isRm x eb hb ({ (rset m3 { m3.ths[c] with st := 2 }) with sp := m3.sp - 1, cur := m3.stk.getD (m3.sp - 1).toNat 0 }) (List.flatten [blk x.b 142 [ptr x.nb, ptr x.tb, Value.slice x.na m3.nodes.length x.nc, I m3.root, Value.slice ca m3.clos.length cc, Value.slice (some ⟨hk, 0, none⟩) m3.ths.length hc', I s0, I s1, I s2, I s3, I s4, I (j5 : Int), I (c6 : Int), I m3.fuel, I m3.first, S m3.out, .bool m3.done, I m3.ans.e, I m3.ans.n, I m3.ans.m, S m3.ans.s, S m3.ans.t], sX, blk hk 149 (hb.map ptr ++ hsp), sA, List.flatten [blk (hb.getD c 0) 152 [I 2, I m3.ths[c].fn, I (m3.ths[c].depth), Value.slice ta (m3.ths[c].tasks.length) tc, Value.slice va (m3.ths[c].vals.length) vc], sa, sv], sZ, R]) := by
            have := hput ({ (rset m3 { m3.ths[c] with st := 2 }) with sp := m3.sp - 1, cur := m3.stk.getD (m3.sp - 1).toNat 0 }) s0 s1 s2 s3 s4 ({ m3.ths[c] with st := 2 }) ta tc va vc sa sv (m3.ths[c].tasks.length) (m3.ths[c].vals.length) rfl rfl rfl ?_ rfl rfl hstk rfl rfl (hTA) (hVA) (hTS)
            · have e1 : m3.stk.getD (m3.sp - 1).toNat 0 = (c6 : Int) := by rw [hj]; exact hcu6
              rw [← e1, ← hj]; exact this
            · show (rset m3 { m3.ths[c] with st := 2 }).ths = _; unfold rset; rw [hcc]; rfl
          refine SP_part (H' := [List.flatten [blk x.b 142 [ptr x.nb, ptr x.tb, Value.slice x.na m3.nodes.length x.nc, I m3.root, Value.slice ca m3.clos.length cc, Value.slice (some ⟨hk, 0, none⟩) m3.ths.length hc', I s0, I s1, I s2, I s3, I s4, I (j5 : Int), I (c6 : Int), I m3.fuel, I m3.first, S m3.out, .bool m3.done, I m3.ans.e, I m3.ans.n, I m3.ans.m, S m3.ans.s, S m3.ans.t], sX, blk hk 149 (hb.map ptr ++ hsp), sA, List.flatten [blk (hb.getD c 0) 152 [I 2, I m3.ths[c].fn, I (m3.ths[c].depth), Value.slice ta (m3.ths[c].tasks.length) tc, Value.slice va (m3.ths[c].vals.length) vc], sa, sv], sZ, R], blk b8 42 (valV z0)]) (by repeat (first | exact Part.nil _ | (apply Part.cons; with_reducible (first | exact P0 | exact P1 | exact P2 | exact P3 | exact P4 | exact P5 | exact P6 | exact P7 | exact P8 | exact P9 | exact P10 | exact P11 | exact P12 | exact P13 | exact P14 | exact P15 | exact P16 | exact P17 | exact P18 | exact P19 | exact P20 | exact P21 | exact P22 | exact P23)) | (apply Part.flat; simp only [List.cons_append, List.nil_append]) | (apply Part.cons; (first | exact P0 | exact P1 | exact P2 | exact P3 | exact P4 | exact P5 | exact P6 | exact P7 | exact P8 | exact P9 | exact P10 | exact P11 | exact P12 | exact P13 | exact P14 | exact P15 | exact P16 | exact P17 | exact P18 | exact P19 | exact P20 | exact P21 | exact P22 | exact P23)) | (apply Part.nilc))) ?_
          obtain ⟨sg6, hsg6⟩ : ∃ q : Seg, List.flatten [blk x.b 142 [ptr x.nb, ptr x.tb, Value.slice x.na m3.nodes.length x.nc, I m3.root, Value.slice ca m3.clos.length cc, Value.slice (some ⟨hk, 0, none⟩) m3.ths.length hc', I s0, I s1, I s2, I s3, I s4, I (j5 : Int), I (c6 : Int), I m3.fuel, I m3.first, S m3.out, .bool m3.done, I m3.ans.e, I m3.ans.n, I m3.ans.m, S m3.ans.s, S m3.ans.t], sX, blk hk 149 (hb.map ptr ++ hsp), sA, List.flatten [blk (hb.getD c 0) 152 [I 2, I m3.ths[c].fn, I (m3.ths[c].depth), Value.slice ta (m3.ths[c].tasks.length) tc, Value.slice va (m3.ths[c].vals.length) vc], sa, sv], sZ, R] = q := ⟨_, rfl⟩
          rw [hm6, hsg6] at hM6
          rw [hsg6]
          have hc6 : c6 < m6.ths.length := by have := hco6.1; omega
          have hco7 := hco6.2
          clear hput hstk hTA hVA hTS hcell hsg6 hstc
          have hcc := hcc6
          have hc := hc6
          rw [thG_eq hcc hc] at hP6
          unfold rfin2 at hP6
          obtain ⟨m8, hq8, hP6⟩ := bnd1 hP6
          obtain ⟨ca, cc, hk, hc', hsp, s0, s1, s2, s3, s4, sX, sA, sZ, R, ta, tc, va, vc, sa, sv, rfl, hstk, hhl, hTA, hVA, hTS, hput⟩ := isRm_open hM6 hc
          refine SP_openAt [blk x.b 142 [ptr x.nb, ptr x.tb, Value.slice x.na m6.nodes.length x.nc, I m6.root, Value.slice ca m6.clos.length cc, Value.slice (some ⟨hk, 0, none⟩) m6.ths.length hc', I s0, I s1, I s2, I s3, I s4, I m6.sp, I m6.cur, I m6.fuel, I m6.first, S m6.out, .bool m6.done, I m6.ans.e, I m6.ans.n, I m6.ans.m, S m6.ans.s, S m6.ans.t], sX, blk hk 149 (hb.map ptr ++ hsp), sA, List.flatten [blk (hb.getD c6 0) 152 [I m6.ths[c6].st, I m6.ths[c6].fn, I (m6.ths[c6].depth), Value.slice ta (m6.ths[c6].tasks.length) tc, Value.slice va (m6.ths[c6].vals.length) vc], sa, sv], sZ, R] (by first | exact P0 | exact P1 | exact P2 | exact P3 | exact P4 | exact P5 | exact P6 | exact P7 | exact P8 | exact P9 | exact P10 | exact P11 | exact P12 | exact P13 | exact P14 | exact P15 | exact P16 | exact P17 | exact P18 | exact P19 | exact P20 | exact P21 | exact P22 | exact P23) ?_
          simp only [List.cons_append, List.nil_append]
          refine SP_openAt [blk (hb.getD c6 0) 152 [I m6.ths[c6].st, I m6.ths[c6].fn, I (m6.ths[c6].depth), Value.slice ta (m6.ths[c6].tasks.length) tc, Value.slice va (m6.ths[c6].vals.length) vc], sa, sv] (by first | exact P0 | exact P1 | exact P2 | exact P3 | exact P4 | exact P5 | exact P6 | exact P7 | exact P8 | exact P9 | exact P10 | exact P11 | exact P12 | exact P13 | exact P14 | exact P15 | exact P16 | exact P17 | exact P18 | exact P19 | exact P20 | exact P21 | exact P22 | exact P23) ?_
          simp only [List.cons_append, List.nil_append]
          have hcell : ∀ H : Hp, Cell (blk hk 149 (hb.map ptr ++ hsp) :: H) hk (0 + ((c6 : Nat) : Int).toNat * 1) (ptr (hb.getD c6 0)) := fun H => Cell.head (hb_at hhl hc)
          rw [hcc]
          refine SP_draw 12 [(0, 0), (1, 0), (2, 0), (4, 0), (5, 0), (6, 0), (3, 1), (7, 1), (8, 0), (9, 1), (10, 0), (11, 0), (12, 3)] mixed (by kernel_rfl) (fun _ _ _ _ _ h => h) (Part.refl _) ?_
          refine SPO_p rfl (y_move rfl) rfl ?_
          refine SPO_p rfl (y_nil rfl) rfl ?_
          refine SPO_p rfl (y_fa fld_142_5 rfl) rfl ?_
          refine SPO_p rfl (y_move rfl) rfl ?_
          refine SPO_p rfl (y_nil rfl) rfl ?_
          refine SPO_p rfl (y_fa fld_142_8 rfl) rfl ?_
          refine SPO_h rfl (y_load Tryz.isAgg139 rfl (by repeat (first | exact Cell.amid hpre rfl | exact Cell.head rfl | apply Cell.tail))) rfl ?_
          refine SPO_h rfl (y_load Tryz.isAgg3 rfl (by repeat (first | exact Cell.amid hpre rfl | exact Cell.head rfl | apply Cell.tail))) rfl ?_
          refine SPO_p rfl (y_ia Tryz.underlying139 Tryz.sizeOf149 rfl rfl (by omega)) rfl ?_
          refine SPO_h rfl (y_load Tryz.isAgg149 rfl (by repeat (first | exact hcell _ | apply Cell.tail))) rfl ?_
          refine SPO_p rfl (y_nil rfl) rfl ?_
          refine SPO_p rfl (y_fa fld_152_0 rfl) rfl ?_
          refine SPO_z (k := 0) rfl rfl (SP1_store Tryz.sizeOf3 rfl rfl rfl (by first | exact U0 | exact U1 | exact U2 | exact U3 | exact U4 | exact U5 | exact U6 | exact U7 | exact U8 | exact U9 | exact U10 | exact U11 | exact U12 | exact U13 | exact U14 | exact U15 | exact U16 | exact U17 | exact U18 | exact U19 | exact U20 | exact U21 | exact U22 | exact U23) (by rfl) ?_)
          refine SPO_nil ?_
          refine thenP_n ?_
          refine SP_seq ?_
          have hM7 : isRm x eb hb (rset m6 { m6.ths[c6] with st := 4 }) (List.flatten [blk x.b 142 [ptr x.nb, ptr x.tb, Value.slice x.na m6.nodes.length x.nc, I m6.root, Value.slice ca m6.clos.length cc, Value.slice (some ⟨hk, 0, none⟩) m6.ths.length hc', I s0, I s1, I s2, I s3, I s4, I m6.sp, I (c6 : Int), I m6.fuel, I m6.first, S m6.out, .bool m6.done, I m6.ans.e, I m6.ans.n, I m6.ans.m, S m6.ans.s, S m6.ans.t], sX, blk hk 149 (hb.map ptr ++ hsp), sA, List.flatten [blk (hb.getD c6 0) 152 [I 4, I m6.ths[c6].fn, I (m6.ths[c6].depth), Value.slice ta (m6.ths[c6].tasks.length) tc, Value.slice va (m6.ths[c6].vals.length) vc], sa, sv], sZ, R]) := by
            have := hput (rset m6 { m6.ths[c6] with st := 4 }) s0 s1 s2 s3 s4 ({ m6.ths[c6] with st := 4 }) ta tc va vc sa sv (m6.ths[c6].tasks.length) (m6.ths[c6].vals.length) rfl rfl rfl ?_ rfl rfl hstk rfl rfl (hTA) (hVA) (hTS)
            · rw [← hcc]; exact this
            · unfold rset; rw [hcc]; rfl
          refine SP_part (H' := [List.flatten [blk x.b 142 [ptr x.nb, ptr x.tb, Value.slice x.na m6.nodes.length x.nc, I m6.root, Value.slice ca m6.clos.length cc, Value.slice (some ⟨hk, 0, none⟩) m6.ths.length hc', I s0, I s1, I s2, I s3, I s4, I m6.sp, I (c6 : Int), I m6.fuel, I m6.first, S m6.out, .bool m6.done, I m6.ans.e, I m6.ans.n, I m6.ans.m, S m6.ans.s, S m6.ans.t], sX, blk hk 149 (hb.map ptr ++ hsp), sA, List.flatten [blk (hb.getD c6 0) 152 [I 4, I m6.ths[c6].fn, I (m6.ths[c6].depth), Value.slice ta (m6.ths[c6].tasks.length) tc, Value.slice va (m6.ths[c6].vals.length) vc], sa, sv], sZ, R], blk b8 42 (valV z0)]) (by repeat (first | exact Part.nil _ | (apply Part.cons; with_reducible (first | exact P0 | exact P1 | exact P2 | exact P3 | exact P4 | exact P5 | exact P6 | exact P7 | exact P8 | exact P9 | exact P10 | exact P11 | exact P12 | exact P13 | exact P14 | exact P15 | exact P16 | exact P17 | exact P18 | exact P19 | exact P20 | exact P21 | exact P22 | exact P23)) | (apply Part.flat; simp only [List.cons_append, List.nil_append]) | (apply Part.cons; (first | exact P0 | exact P1 | exact P2 | exact P3 | exact P4 | exact P5 | exact P6 | exact P7 | exact P8 | exact P9 | exact P10 | exact P11 | exact P12 | exact P13 | exact P14 | exact P15 | exact P16 | exact P17 | exact P18 | exact P19 | exact P20 | exact P21 | exact P22 | exact P23)) | (apply Part.nilc))) ?_
          refine SP_region ?_
          refine SPL_y (y_move rfl) rfl ?_
          refine SPL_y (y_build B42 rfl rfl (by simp only [fillL, List.foldl_cons, List.foldl_nil, List.set_cons_zero, List.set_cons_succ]; exact rfl)) rfl ?_
          refine SPL_one rfl (SP1_call (cm_push x eb hb ⟨1, 1, []⟩ hq8 _ hM7) Tryz.call107 rfl rfl (by repeat (first | exact Part.nil _ | (apply Part.cons; with_reducible (first | exact P0 | exact P1 | exact P2 | exact P3 | exact P4 | exact P5 | exact P6 | exact P7 | exact P8 | exact P9 | exact P10 | exact P11 | exact P12 | exact P13 | exact P14 | exact P15 | exact P16 | exact P17 | exact P18 | exact P19 | exact P20 | exact P21 | exact P22 | exact P23)) | (apply Part.flat; simp only [List.cons_append, List.nil_append]) | (apply Part.cons; (first | exact P0 | exact P1 | exact P2 | exact P3 | exact P4 | exact P5 | exact P6 | exact P7 | exact P8 | exact P9 | exact P10 | exact P11 | exact P12 | exact P13 | exact P14 | exact P15 | exact P16 | exact P17 | exact P18 | exact P19 | exact P20 | exact P21 | exact P22 | exact P23)) | (apply Part.nilc))) ?_)
          rintro v post H' ⟨rfl, sg8, hM8, rfl⟩ hH
          try simp only [List.cons_append, List.nil_append] at hH
          subst hH
          refine SPL_nil ?_
          refine thenP_n ?_
          refine SP_seq ?_
          refine SP_region ?_
          refine SPL_y (y_move rfl) rfl ?_
          refine SPL_y (y_loads Tryz.isAgg42 Tryz.sizeOf42 rfl rfl (by repeat (first | exact Cells.all _ | exact Cells.amid hpre rfl (by decide) | exact Cells.head rfl | apply Cells.tail))) rfl ?_
          refine SPL_one rfl (SP1_call (cm_push x eb hb z0 hP6 _ hM8) Tryz.call107 rfl rfl (by repeat (first | exact Part.nil _ | (apply Part.cons; with_reducible (first | exact P0 | exact P1 | exact P2 | exact P3 | exact P4 | exact P5 | exact P6 | exact P7 | exact P8 | exact P9 | exact P10 | exact P11 | exact P12 | exact P13 | exact P14 | exact P15 | exact P16 | exact P17 | exact P18 | exact P19 | exact P20 | exact P21 | exact P22 | exact P23)) | (apply Part.flat; simp only [List.cons_append, List.nil_append]) | (apply Part.cons; (first | exact P0 | exact P1 | exact P2 | exact P3 | exact P4 | exact P5 | exact P6 | exact P7 | exact P8 | exact P9 | exact P10 | exact P11 | exact P12 | exact P13 | exact P14 | exact P15 | exact P16 | exact P17 | exact P18 | exact P19 | exact P20 | exact P21 | exact P22 | exact P23)) | (apply Part.nilc))) ?_)
          rintro v post H' ⟨rfl, sg9, hM9, rfl⟩ hH
          try simp only [List.cons_append, List.nil_append] at hH
          subst hH
          refine SPL_nil ?_
          refine thenP_n ?_
          refine SP_ret ?_
          refine inBlockP_ret (thenP_ret (bodyP_ret (H' := [sg9]) (Res0 rfl) (by repeat (first | exact Part.nil _ | (apply Part.cons; with_reducible (first | exact P0 | exact P1 | exact P2 | exact P3 | exact P4 | exact P5 | exact P6 | exact P7 | exact P8 | exact P9 | exact P10 | exact P11 | exact P12 | exact P13 | exact P14 | exact P15 | exact P16 | exact P17 | exact P18 | exact P19 | exact P20 | exact P21 | exact P22 | exact P23)) | (apply Part.flat; simp only [List.cons_append, List.nil_append]) | (apply Part.cons; (first | exact P0 | exact P1 | exact P2 | exact P3 | exact P4 | exact P5 | exact P6 | exact P7 | exact P8 | exact P9 | exact P10 | exact P11 | exact P12 | exact P13 | exact P14 | exact P15 | exact P16 | exact P17 | exact P18 | exact P19 | exact P20 | exact P21 | exact P22 | exact P23)) | (apply Part.nilc))) ?_))
          exact ⟨rfl, eb, hb, _, Gr.refl _ _, hM9, rfl⟩
        intro h61_0
        first | rw [if_pos h61_0] at hP | rw [if_neg h61_0] at hP | skip
        refine SPL_y (y_assign rfl) rfl ?_
        refine SPL_nil ?_
        refine thenP_n ?_
        refine SP_cond_t rfl ?_
        refine SP_seq ?_
        refine SP_seq ?_
        unfold rresume at hP
        refine SP_region ?_
        refine SPL_y (y_fa fld_42_0 rfl) rfl ?_
        refine SPL_y (y_load Tryz.isAgg3 rfl (by repeat (first | exact Cell.amid hpre rfl | exact Cell.head rfl | apply Cell.tail))) rfl ?_
        refine SPL_if (y_neq rfl rfl) rfl ?_ ?_
        · intro h62_2
          first | rw [if_pos h62_2] at hP | rw [if_neg h62_2] at hP | skip
          refine SPL_nil ?_
          refine thenP_n ?_
          refine SP_cond_t rfl ?_
          refine SP_seq ?_
          refine SP_region ?_
          refine SPL_y (y_move rfl) rfl ?_
          refine SPL_one rfl (SP1_call (cm_raise x eb hb hP _ hM3) Tryz.call104 rfl rfl (by repeat (first | exact Part.nil _ | (apply Part.cons; with_reducible (first | exact P0 | exact P1 | exact P2 | exact P3 | exact P4 | exact P5 | exact P6 | exact P7 | exact P8 | exact P9 | exact P10 | exact P11 | exact P12 | exact P13 | exact P14 | exact P15 | exact P16 | exact P17 | exact P18 | exact P19 | exact P20 | exact P21 | exact P22 | exact P23)) | (apply Part.flat; simp only [List.cons_append, List.nil_append]) | (apply Part.cons; (first | exact P0 | exact P1 | exact P2 | exact P3 | exact P4 | exact P5 | exact P6 | exact P7 | exact P8 | exact P9 | exact P10 | exact P11 | exact P12 | exact P13 | exact P14 | exact P15 | exact P16 | exact P17 | exact P18 | exact P19 | exact P20 | exact P21 | exact P22 | exact P23)) | (apply Part.nilc))) ?_)
          rintro v post H' ⟨rfl, sg9, hM9, rfl⟩ hH
          try simp only [List.cons_append, List.nil_append] at hH
          subst hH
          refine SPL_nil ?_
          refine thenP_n ?_
          refine SP_ret ?_
          refine thenP_ret (inBlockP_ret (thenP_ret (bodyP_ret (H' := [sg9]) (Res0 rfl) (by repeat (first | exact Part.nil _ | (apply Part.cons; with_reducible (first | exact P0 | exact P1 | exact P2 | exact P3 | exact P4 | exact P5 | exact P6 | exact P7 | exact P8 | exact P9 | exact P10 | exact P11 | exact P12 | exact P13 | exact P14 | exact P15 | exact P16 | exact P17 | exact P18 | exact P19 | exact P20 | exact P21 | exact P22 | exact P23)) | (apply Part.flat; simp only [List.cons_append, List.nil_append]) | (apply Part.cons; (first | exact P0 | exact P1 | exact P2 | exact P3 | exact P4 | exact P5 | exact P6 | exact P7 | exact P8 | exact P9 | exact P10 | exact P11 | exact P12 | exact P13 | exact P14 | exact P15 | exact P16 | exact P17 | exact P18 | exact P19 | exact P20 | exact P21 | exact P22 | exact P23)) | (apply Part.nilc))) ?_)))
          exact ⟨rfl, eb, hb, _, Gr.refl _ _, hM9, rfl⟩
        intro h62_2
        first | rw [if_neg h62_2] at hP | rw [if_pos (Decidable.not_not.1 h62_2)] at hP | skip
        refine SPL_nil ?_
        refine thenP_n ?_
        refine SP_cond_f rfl ?_
        refine SP_skip ?_
        refine thenP_n ?_
        refine SP_seq ?_
        have hg9 : curOk m3 ∧ (0 ≤ z0.n ∧ z0.n < m3.ths.length) ∧ (0 ≤ m3.sp ∧ m3.sp < 5) ∧ (0 ≤ m3.first ∧ m3.first ≤ 1000000) := Decidable.byContradiction fun q => by rw [if_pos q] at hP; cases hP
        rw [if_neg (fun q => q hg9)] at hP
        obtain ⟨_, hg10, hg11, hg12⟩ := hg9
        obtain ⟨ak, hak⟩ : ∃ k : Nat, z0.n = k := ⟨z0.n.toNat, by omega⟩
        have haj : ak < m3.ths.length := by omega
        rw [hak] at hP
        dsimp only at hP
        rw [Int.toNat_natCast, getD_th haj] at hP
        obtain ⟨hkA, hcA, _, _, _, _, hTaA, hTbA, hTcA, _, _⟩ := hM3.thr haj
        have hTeA : ∀ H : Hp, Cell (sg3 :: H) (hb.getD ak 0) (0 + 0) (I m3.ths[ak].st) := fun H => (hTcA H).cell (j := 0) rfl
        have hTfA : ∀ H : Hp, Cell (sg3 :: H) hkA (0 + ((ak : Nat) : Int).toNat * 1) (ptr (hb.getD ak 0)) := fun H => by simpa using hTbA H
        refine SP_draw 999 [(0, 0), (1, 0), (2, 0), (4, 0), (3, 1), (5, 1), (6, 0), (7, 1), (8, 0)] mixed (by kernel_rfl) (fun _ _ _ _ _ h => h) (Part.refl _) ?_
        refine SPO_p rfl (y_move rfl) rfl ?_
        refine SPO_p rfl (y_nil rfl) rfl ?_
        refine SPO_p rfl (y_fa fld_142_5 rfl) rfl ?_
        refine SPO_p rfl (y_fa fld_42_1 rfl) rfl ?_
        refine SPO_h rfl (y_load Tryz.isAgg139 rfl (by repeat (first | exact hTaA _ | apply Cell.tail))) rfl ?_
        refine SPO_h rfl (y_load Tryz.isAgg40 rfl (by repeat (first | exact Cell.amid hpre rfl | exact Cell.head rfl | apply Cell.tail))) rfl ?_
        rw [hak]
        refine SPO_p rfl (y_ia Tryz.underlying139 Tryz.sizeOf149 rfl rfl (by omega)) rfl ?_
        refine SPO_h rfl (y_load Tryz.isAgg149 rfl (by repeat (first | exact hTfA _ | apply Cell.tail))) rfl ?_
        refine SPO_p rfl (y_assign rfl) rfl ?_
        refine SPO_nil ?_
        refine thenP_n ?_
        refine SP_seq ?_
        refine SP_region ?_
        refine SPL_y (y_move rfl) rfl ?_
        refine SPL_y (y_nil rfl) rfl ?_
        refine SPL_y (y_fa fld_152_0 rfl) rfl ?_
        refine SPL_y (y_load Tryz.isAgg3 rfl (by repeat (first | exact hTeA _ | apply Cell.tail))) rfl ?_
        refine SPL_ifn (y_neq rfl rfl) rfl ?_ ?_
        · intro h65_4
          first | rw [if_neg h65_4] at hP | rw [if_pos (Decidable.not_not.1 h65_4)] at hP | skip
          refine SPL_y (y_move rfl) rfl ?_
          refine SPL_gn rfl rfl rfl rfl ?_
          refine SPL_gn rfl rfl rfl rfl ?_
          refine SPL_gn rfl rfl rfl rfl ?_
          refine SPL_gn rfl rfl rfl rfl ?_
          refine SPL_gn rfl rfl rfl rfl ?_
          refine SPL_y (y_pick_f rfl rfl) rfl ?_
          refine SPL_nil ?_
          refine thenP_n ?_
          refine SP_cond_f rfl ?_
          refine SP_seq ?_
          rw [if_neg (fun q => h65_4 q.1)] at hP
          have hcc := hcc3
          have hc := hc3
          have hth := hth3
          clear hTa3 hTb3 hTc3 hTd3 hTe3
          obtain ⟨ca, cc, hk, hc', hsp, s0, s1, s2, s3, s4, sX, sA, sZ, R, ta, tc, va, vc, sa, sv, rfl, hstk, hhl, hTA, hVA, hTS, hput⟩ := isRm_open hM3 hc
          refine SP_openAt [blk x.b 142 [ptr x.nb, ptr x.tb, Value.slice x.na m3.nodes.length x.nc, I m3.root, Value.slice ca m3.clos.length cc, Value.slice (some ⟨hk, 0, none⟩) m3.ths.length hc', I s0, I s1, I s2, I s3, I s4, I m3.sp, I m3.cur, I m3.fuel, I m3.first, S m3.out, .bool m3.done, I m3.ans.e, I m3.ans.n, I m3.ans.m, S m3.ans.s, S m3.ans.t], sX, blk hk 149 (hb.map ptr ++ hsp), sA, List.flatten [blk (hb.getD c 0) 152 [I m3.ths[c].st, I m3.ths[c].fn, I (m3.ths[c].depth), Value.slice ta (m3.ths[c].tasks.length) tc, Value.slice va (m3.ths[c].vals.length) vc], sa, sv], sZ, R] (by first | exact P0 | exact P1 | exact P2 | exact P3 | exact P4 | exact P5 | exact P6 | exact P7 | exact P8 | exact P9 | exact P10 | exact P11 | exact P12 | exact P13 | exact P14 | exact P15 | exact P16 | exact P17 | exact P18 | exact P19 | exact P20 | exact P21 | exact P22 | exact P23) ?_
          simp only [List.cons_append, List.nil_append]
          refine SP_openAt [blk (hb.getD c 0) 152 [I m3.ths[c].st, I m3.ths[c].fn, I (m3.ths[c].depth), Value.slice ta (m3.ths[c].tasks.length) tc, Value.slice va (m3.ths[c].vals.length) vc], sa, sv] (by first | exact P0 | exact P1 | exact P2 | exact P3 | exact P4 | exact P5 | exact P6 | exact P7 | exact P8 | exact P9 | exact P10 | exact P11 | exact P12 | exact P13 | exact P14 | exact P15 | exact P16 | exact P17 | exact P18 | exact P19 | exact P20 | exact P21 | exact P22 | exact P23) ?_
          simp only [List.cons_append, List.nil_append]
          have hcell : ∀ H : Hp, Cell (blk hk 149 (hb.map ptr ++ hsp) :: H) hk (0 + ((c : Nat) : Int).toNat * 1) (ptr (hb.getD c 0)) := fun H => Cell.head (hb_at hhl hc)
          rw [hcc]
          refine SP_region ?_
          refine SPL_y (y_move rfl) rfl ?_
          refine SPL_y (y_nil rfl) rfl ?_
          refine SPL_y (y_fa fld_152_0 rfl) rfl ?_
          refine SPL_one rfl (SP1_store Tryz.sizeOf3 rfl rfl rfl (by first | exact U0 | exact U1 | exact U2 | exact U3 | exact U4 | exact U5 | exact U6 | exact U7 | exact U8 | exact U9 | exact U10 | exact U11 | exact U12 | exact U13 | exact U14 | exact U15 | exact U16 | exact U17 | exact U18 | exact U19 | exact U20 | exact U21 | exact U22 | exact U23) (by rfl) ?_)
          refine SPL_nil ?_
          refine thenP_n ?_
          refine SP_seq ?_
          obtain ⟨spn, hspn⟩ : ∃ k : Nat, m3.sp = k := ⟨m3.sp.toNat, by omega⟩
          rw [hspn]
          rw [show ([ptr x.nb, ptr x.tb, Value.slice x.na m3.nodes.length x.nc, I m3.root, Value.slice ca m3.clos.length cc, Value.slice (some ⟨hk, 0, none⟩) m3.ths.length hc', I s0, I s1, I s2, I s3, I s4, I (spn : Int), I (c : Int), I m3.fuel, I m3.first, S m3.out, .bool m3.done, I m3.ans.e, I m3.ans.n, I m3.ans.m, S m3.ans.s, S m3.ans.t] : List Value) = ([ptr x.nb, ptr x.tb, Value.slice x.na m3.nodes.length x.nc, I m3.root, Value.slice ca m3.clos.length cc, Value.slice (some ⟨hk, 0, none⟩) m3.ths.length hc'] ++ [I s0, I s1, I s2, I s3, I s4] ++ [I (spn : Int), I (c : Int), I m3.fuel, I m3.first, S m3.out, .bool m3.done, I m3.ans.e, I m3.ans.n, I m3.ans.m, S m3.ans.s, S m3.ans.t] : List Value) from rfl]
          refine SP_draw 12 [(0, 0), (1, 0), (2, 0), (3, 0), (5, 0), (6, 0), (7, 0), (9, 0), (10, 0), (4, 1), (8, 1), (11, 0), (12, 3)] mixed (by kernel_rfl) (fun _ _ _ _ _ h => h) (Part.refl _) ?_
          refine SPO_p rfl (y_move rfl) rfl ?_
          refine SPO_p rfl (y_move rfl) rfl ?_
          refine SPO_p rfl (y_nil rfl) rfl ?_
          refine SPO_p rfl (y_fa fld_142_7 rfl) rfl ?_
          refine SPO_p rfl (y_move rfl) rfl ?_
          refine SPO_p rfl (y_nil rfl) rfl ?_
          refine SPO_p rfl (y_fa fld_142_8 rfl) rfl ?_
          refine SPO_p rfl (y_nil rfl) rfl ?_
          refine SPO_p rfl (y_fa fld_142_6 rfl) rfl ?_
          refine SPO_h rfl (y_load Tryz.isAgg3 rfl (by repeat (first | exact Cell.amid hpre rfl | exact Cell.head rfl | apply Cell.tail))) rfl ?_
          refine SPO_h rfl (y_load Tryz.isAgg3 rfl (by repeat (first | exact Cell.amid hpre rfl | exact Cell.head rfl | apply Cell.tail))) rfl ?_
          refine SPO_p rfl (y_ia_arr Tryz.underlying140 Tryz.sizeOf3 rfl rfl (by omega)) rfl ?_
          refine SPO_z (k := 0) rfl rfl (SP1_storeM (o := 0 + 6) (j := ((spn : Nat) : Int).toNat * 1) Tryz.sizeOf3 rfl rfl rfl rfl (by first | exact U0 | exact U1 | exact U2 | exact U3 | exact U4 | exact U5 | exact U6 | exact U7 | exact U8 | exact U9 | exact U10 | exact U11 | exact U12 | exact U13 | exact U14 | exact U15 | exact U16 | exact U17 | exact U18 | exact U19 | exact U20 | exact U21 | exact U22 | exact U23) (ble_of (by simp; omega)) ?_)
          rw [set5 spn]
          obtain ⟨t0, t1, t2, t3, t4, ht5⟩ := five (l := ([s0, s1, s2, s3, s4] : List Int).set spn (c : Int)) (by simp)
          rw [ht5]
          simp only [List.map_cons, List.map_nil, List.cons_append, List.nil_append]
          refine SPO_nil ?_
          refine thenP_n ?_
          refine SP_seq ?_
          refine SP_region ?_
          refine SPL_y (y_move rfl) rfl ?_
          refine SPL_y (y_nil rfl) rfl ?_
          refine SPL_y (y_fa fld_142_7 rfl) rfl ?_
          refine SPL_y (y_load Tryz.isAgg3 rfl (by repeat (first | exact Cell.amid hpre rfl | exact Cell.head rfl | apply Cell.tail))) rfl ?_
          refine SPL_y (y_add rfl rfl (by omega)) rfl ?_
          refine SPL_y (y_nil rfl) rfl ?_
          refine SPL_y (y_fa fld_142_7 rfl) rfl ?_
          refine SPL_one rfl (SP1_store Tryz.sizeOf3 rfl rfl rfl (by first | exact U0 | exact U1 | exact U2 | exact U3 | exact U4 | exact U5 | exact U6 | exact U7 | exact U8 | exact U9 | exact U10 | exact U11 | exact U12 | exact U13 | exact U14 | exact U15 | exact U16 | exact U17 | exact U18 | exact U19 | exact U20 | exact U21 | exact U22 | exact U23) (by rfl) ?_)
          refine SPL_nil ?_
          refine thenP_n ?_
          refine SP_seq ?_
          refine SP_region ?_
          refine SPL_y (y_move rfl) rfl ?_
          refine SPL_y (y_fa fld_42_1 rfl) rfl ?_
          refine SPL_y (y_load Tryz.isAgg40 rfl (by repeat (first | exact Cell.amid hpre rfl | exact Cell.head rfl | apply Cell.tail))) rfl ?_
          rw [hak]
          refine SPL_y (y_conv Tryz.underlying40 Tryz.underlying3 rfl (show IntKind.i64.wrap ((ak : Nat) : Int) = ((ak : Nat) : Int) by rw [IntKind.wrap_i64]; omega)) rfl ?_
          refine SPL_y (y_nil rfl) rfl ?_
          refine SPL_y (y_fa fld_142_8 rfl) rfl ?_
          refine SPL_one rfl (SP1_store Tryz.sizeOf3 rfl rfl rfl (by first | exact U0 | exact U1 | exact U2 | exact U3 | exact U4 | exact U5 | exact U6 | exact U7 | exact U8 | exact U9 | exact U10 | exact U11 | exact U12 | exact U13 | exact U14 | exact U15 | exact U16 | exact U17 | exact U18 | exact U19 | exact U20 | exact U21 | exact U22 | exact U23) (by rfl) ?_)
          refine SPL_nil ?_
          refine thenP_n ?_
          refine SP_seq ?_
          have hM6 : isRm x eb hb ({ (rset m3 { m3.ths[c] with st := 3 }) with stk := m3.stk.set spn (c : Int), sp := (spn : Int) + 1, cur := (ak : Int) }) (List.flatten [blk x.b 142 [ptr x.nb, ptr x.tb, Value.slice x.na m3.nodes.length x.nc, I m3.root, Value.slice ca m3.clos.length cc, Value.slice (some ⟨hk, 0, none⟩) m3.ths.length hc', I t0, I t1, I t2, I t3, I t4, I ((spn : Int) + 1), I (ak : Int), I m3.fuel, I m3.first, S m3.out, .bool m3.done, I m3.ans.e, I m3.ans.n, I m3.ans.m, S m3.ans.s, S m3.ans.t], sX, blk hk 149 (hb.map ptr ++ hsp), sA, List.flatten [blk (hb.getD c 0) 152 [I 3, I m3.ths[c].fn, I (m3.ths[c].depth), Value.slice ta (m3.ths[c].tasks.length) tc, Value.slice va (m3.ths[c].vals.length) vc], sa, sv], sZ, R]) := by
            have := hput ({ (rset m3 { m3.ths[c] with st := 3 }) with stk := m3.stk.set spn (c : Int), sp := (spn : Int) + 1, cur := (ak : Int) }) t0 t1 t2 t3 t4 ({ m3.ths[c] with st := 3 }) ta tc va vc sa sv (m3.ths[c].tasks.length) (m3.ths[c].vals.length) rfl rfl rfl ?_ rfl rfl (by show m3.stk.set spn (c : Int) = _; rw [hstk]; exact ht5) rfl rfl (hTA) (hVA) (hTS)
            · exact this
            · show (rset m3 { m3.ths[c] with st := 3 }).ths = _; unfold rset; rw [hcc]; rfl
          refine SP_part (H' := [List.flatten [blk x.b 142 [ptr x.nb, ptr x.tb, Value.slice x.na m3.nodes.length x.nc, I m3.root, Value.slice ca m3.clos.length cc, Value.slice (some ⟨hk, 0, none⟩) m3.ths.length hc', I t0, I t1, I t2, I t3, I t4, I ((spn : Int) + 1), I (ak : Int), I m3.fuel, I m3.first, S m3.out, .bool m3.done, I m3.ans.e, I m3.ans.n, I m3.ans.m, S m3.ans.s, S m3.ans.t], sX, blk hk 149 (hb.map ptr ++ hsp), sA, List.flatten [blk (hb.getD c 0) 152 [I 3, I m3.ths[c].fn, I (m3.ths[c].depth), Value.slice ta (m3.ths[c].tasks.length) tc, Value.slice va (m3.ths[c].vals.length) vc], sa, sv], sZ, R], blk b5 277 (valV z0 ++ valV z1 ++ valV z2), blk b9 42 (valV z1)]) (by repeat (first | exact Part.nil _ | (apply Part.cons; with_reducible (first | exact P0 | exact P1 | exact P2 | exact P3 | exact P4 | exact P5 | exact P6 | exact P7 | exact P8 | exact P9 | exact P10 | exact P11 | exact P12 | exact P13 | exact P14 | exact P15 | exact P16 | exact P17 | exact P18 | exact P19 | exact P20 | exact P21 | exact P22 | exact P23)) | (apply Part.flat; simp only [List.cons_append, List.nil_append]) | (apply Part.cons; (first | exact P0 | exact P1 | exact P2 | exact P3 | exact P4 | exact P5 | exact P6 | exact P7 | exact P8 | exact P9 | exact P10 | exact P11 | exact P12 | exact P13 | exact P14 | exact P15 | exact P16 | exact P17 | exact P18 | exact P19 | exact P20 | exact P21 | exact P22 | exact P23)) | (apply Part.nilc))) ?_
          obtain ⟨m6, hm6⟩ : ∃ q : RnM, { (rset m3 { m3.ths[c] with st := 3 }) with stk := m3.stk.set spn (c : Int), sp := (spn : Int) + 1, cur := (ak : Int) } = q := ⟨_, rfl⟩
          have hl6 : m6.ths.length = m3.ths.length := by rw [← hm6]; show ((rset m3 { m3.ths[c] with st := 3 }).ths).length = _; unfold rset; simp
          have hcc6 : m6.cur = ak := by rw [← hm6]
          have hc6 : ak < m6.ths.length := by omega
          rw [hth3, hspn, hcc3] at hP
          rw [Int.toNat_natCast] at hP
          have hP6 : (if (m6.ths.getD ak thD).st = 1 then (if 0 ≤ (m6.ths.getD ak thD).fn ∧ (m6.ths.getD ak thD).fn < 1000000 then renter (m6.ths.getD ak thD).fn [z1] 0 { (rset m6 { (m6.ths.getD ak thD) with st := 4 }) with first := m3.first + 1 } else none) else rfin2 z1 V.nil (rset m6 { (m6.ths.getD ak thD) with st := 4 })) = some m' := by
            rw [← hm6]; exact hP
          have hf6 : m6.first = m3.first := by rw [← hm6]; rfl
          rw [getD_th hc6, ← hf6] at hP6
          clear hP
          obtain ⟨sg6, hsg6⟩ : ∃ q : Seg, List.flatten [blk x.b 142 [ptr x.nb, ptr x.tb, Value.slice x.na m3.nodes.length x.nc, I m3.root, Value.slice ca m3.clos.length cc, Value.slice (some ⟨hk, 0, none⟩) m3.ths.length hc', I t0, I t1, I t2, I t3, I t4, I ((spn : Int) + 1), I (ak : Int), I m3.fuel, I m3.first, S m3.out, .bool m3.done, I m3.ans.e, I m3.ans.n, I m3.ans.m, S m3.ans.s, S m3.ans.t], sX, blk hk 149 (hb.map ptr ++ hsp), sA, List.flatten [blk (hb.getD c 0) 152 [I 3, I m3.ths[c].fn, I (m3.ths[c].depth), Value.slice ta (m3.ths[c].tasks.length) tc, Value.slice va (m3.ths[c].vals.length) vc], sa, sv], sZ, R] = q := ⟨_, rfl⟩
          rw [hm6, hsg6] at hM6
          rw [hsg6]
          clear hput hstk hTA hVA hTS hcell hsg6
          have hcc := hcc6
          have hc := hc6
          obtain ⟨ca, cc, hk, hc', hsp, s0, s1, s2, s3, s4, sX, sA, sZ, R, ta, tc, va, vc, sa, sv, rfl, hstk, hhl, hTA, hVA, hTS, hput⟩ := isRm_open hM6 hc
          refine SP_openAt [blk x.b 142 [ptr x.nb, ptr x.tb, Value.slice x.na m6.nodes.length x.nc, I m6.root, Value.slice ca m6.clos.length cc, Value.slice (some ⟨hk, 0, none⟩) m6.ths.length hc', I s0, I s1, I s2, I s3, I s4, I m6.sp, I m6.cur, I m6.fuel, I m6.first, S m6.out, .bool m6.done, I m6.ans.e, I m6.ans.n, I m6.ans.m, S m6.ans.s, S m6.ans.t], sX, blk hk 149 (hb.map ptr ++ hsp), sA, List.flatten [blk (hb.getD ak 0) 152 [I m6.ths[ak].st, I m6.ths[ak].fn, I (m6.ths[ak].depth), Value.slice ta (m6.ths[ak].tasks.length) tc, Value.slice va (m6.ths[ak].vals.length) vc], sa, sv], sZ, R] (by first | exact P0 | exact P1 | exact P2 | exact P3 | exact P4 | exact P5 | exact P6 | exact P7 | exact P8 | exact P9 | exact P10 | exact P11 | exact P12 | exact P13 | exact P14 | exact P15 | exact P16 | exact P17 | exact P18 | exact P19 | exact P20 | exact P21 | exact P22 | exact P23) ?_
          simp only [List.cons_append, List.nil_append]
          refine SP_openAt [blk (hb.getD ak 0) 152 [I m6.ths[ak].st, I m6.ths[ak].fn, I (m6.ths[ak].depth), Value.slice ta (m6.ths[ak].tasks.length) tc, Value.slice va (m6.ths[ak].vals.length) vc], sa, sv] (by first | exact P0 | exact P1 | exact P2 | exact P3 | exact P4 | exact P5 | exact P6 | exact P7 | exact P8 | exact P9 | exact P10 | exact P11 | exact P12 | exact P13 | exact P14 | exact P15 | exact P16 | exact P17 | exact P18 | exact P19 | exact P20 | exact P21 | exact P22 | exact P23) ?_
          simp only [List.cons_append, List.nil_append]
          have hcell : ∀ H : Hp, Cell (blk hk 149 (hb.map ptr ++ hsp) :: H) hk (0 + ((ak : Nat) : Int).toNat * 1) (ptr (hb.getD ak 0)) := fun H => Cell.head (hb_at hhl hc)
          rw [hcc]
          refine SP_region ?_
          refine SPL_y (y_move rfl) rfl ?_
          refine SPL_y (y_nil rfl) rfl ?_
          refine SPL_y (y_fa fld_152_0 rfl) rfl ?_
          refine SPL_y (y_load Tryz.isAgg3 rfl (by repeat (first | exact Cell.amid hpre rfl | exact Cell.head rfl | apply Cell.tail))) rfl ?_
          refine SPL_ifn (y_eql rfl rfl) rfl ?_ ?_
          · intro h73_4
            first | rw [if_neg h73_4] at hP | rw [if_pos (Decidable.not_not.1 h73_4)] at hP | skip
            refine SPL_y (y_assign rfl) rfl ?_
            refine SPL_nil ?_
            refine thenP_n ?_
            refine SP_seq ?_
            refine SP_region ?_
            refine SPL_y (y_move rfl) rfl ?_
            refine SPL_y (y_nil rfl) rfl ?_
            refine SPL_y (y_fa fld_152_0 rfl) rfl ?_
            refine SPL_one rfl (SP1_store Tryz.sizeOf3 rfl rfl rfl (by first | exact U0 | exact U1 | exact U2 | exact U3 | exact U4 | exact U5 | exact U6 | exact U7 | exact U8 | exact U9 | exact U10 | exact U11 | exact U12 | exact U13 | exact U14 | exact U15 | exact U16 | exact U17 | exact U18 | exact U19 | exact U20 | exact U21 | exact U22 | exact U23) (by rfl) ?_)
            refine SPL_nil ?_
            refine thenP_n ?_
            refine SP_seq ?_
            refine SP_seq ?_
            refine SP_region ?_
            refine SPL_y (y_move rfl) rfl ?_
            refine SPL_nil ?_
            refine thenP_n ?_
            refine SP_cond_f rfl ?_
            refine SP_seq ?_
            rw [if_neg h73_4] at hP6
            unfold rfin2 at hP6
            obtain ⟨m8, hq8, hP6⟩ := bnd1 hP6
            have hM7 : isRm x eb hb (rset m6 { m6.ths[ak] with st := 4 }) (List.flatten [blk x.b 142 [ptr x.nb, ptr x.tb, Value.slice x.na m6.nodes.length x.nc, I m6.root, Value.slice ca m6.clos.length cc, Value.slice (some ⟨hk, 0, none⟩) m6.ths.length hc', I s0, I s1, I s2, I s3, I s4, I m6.sp, I (ak : Int), I m6.fuel, I m6.first, S m6.out, .bool m6.done, I m6.ans.e, I m6.ans.n, I m6.ans.m, S m6.ans.s, S m6.ans.t], sX, blk hk 149 (hb.map ptr ++ hsp), sA, List.flatten [blk (hb.getD ak 0) 152 [I 4, I m6.ths[ak].fn, I (m6.ths[ak].depth), Value.slice ta (m6.ths[ak].tasks.length) tc, Value.slice va (m6.ths[ak].vals.length) vc], sa, sv], sZ, R]) := by
              have := hput (rset m6 { m6.ths[ak] with st := 4 }) s0 s1 s2 s3 s4 ({ m6.ths[ak] with st := 4 }) ta tc va vc sa sv (m6.ths[ak].tasks.length) (m6.ths[ak].vals.length) rfl rfl rfl ?_ rfl rfl hstk rfl rfl (hTA) (hVA) (hTS)
              · rw [← hcc]; exact this
              · show (rset m6 { m6.ths[ak] with st := 4 }).ths = _; unfold rset; rw [hcc]; rfl
            refine SP_part (H' := [List.flatten [blk x.b 142 [ptr x.nb, ptr x.tb, Value.slice x.na m6.nodes.length x.nc, I m6.root, Value.slice ca m6.clos.length cc, Value.slice (some ⟨hk, 0, none⟩) m6.ths.length hc', I s0, I s1, I s2, I s3, I s4, I m6.sp, I (ak : Int), I m6.fuel, I m6.first, S m6.out, .bool m6.done, I m6.ans.e, I m6.ans.n, I m6.ans.m, S m6.ans.s, S m6.ans.t], sX, blk hk 149 (hb.map ptr ++ hsp), sA, List.flatten [blk (hb.getD ak 0) 152 [I 4, I m6.ths[ak].fn, I (m6.ths[ak].depth), Value.slice ta (m6.ths[ak].tasks.length) tc, Value.slice va (m6.ths[ak].vals.length) vc], sa, sv], sZ, R], blk b5 277 (valV z0 ++ valV z1 ++ valV z2), blk b9 42 (valV z1)]) (by repeat (first | exact Part.nil _ | (apply Part.cons; with_reducible (first | exact P0 | exact P1 | exact P2 | exact P3 | exact P4 | exact P5 | exact P6 | exact P7 | exact P8 | exact P9 | exact P10 | exact P11 | exact P12 | exact P13 | exact P14 | exact P15 | exact P16 | exact P17 | exact P18 | exact P19 | exact P20 | exact P21 | exact P22 | exact P23)) | (apply Part.flat; simp only [List.cons_append, List.nil_append]) | (apply Part.cons; (first | exact P0 | exact P1 | exact P2 | exact P3 | exact P4 | exact P5 | exact P6 | exact P7 | exact P8 | exact P9 | exact P10 | exact P11 | exact P12 | exact P13 | exact P14 | exact P15 | exact P16 | exact P17 | exact P18 | exact P19 | exact P20 | exact P21 | exact P22 | exact P23)) | (apply Part.nilc))) ?_
            refine SP_region ?_
            refine SPL_y (y_move rfl) rfl ?_
            refine SPL_y (y_loads Tryz.isAgg42 Tryz.sizeOf42 rfl rfl (by repeat (first | exact Cells.all _ | exact Cells.amid hpre rfl (by decide) | exact Cells.head rfl | apply Cells.tail))) rfl ?_
            refine SPL_one rfl (SP1_call (cm_push x eb hb z1 hq8 _ hM7) Tryz.call107 rfl rfl (by repeat (first | exact Part.nil _ | (apply Part.cons; with_reducible (first | exact P0 | exact P1 | exact P2 | exact P3 | exact P4 | exact P5 | exact P6 | exact P7 | exact P8 | exact P9 | exact P10 | exact P11 | exact P12 | exact P13 | exact P14 | exact P15 | exact P16 | exact P17 | exact P18 | exact P19 | exact P20 | exact P21 | exact P22 | exact P23)) | (apply Part.flat; simp only [List.cons_append, List.nil_append]) | (apply Part.cons; (first | exact P0 | exact P1 | exact P2 | exact P3 | exact P4 | exact P5 | exact P6 | exact P7 | exact P8 | exact P9 | exact P10 | exact P11 | exact P12 | exact P13 | exact P14 | exact P15 | exact P16 | exact P17 | exact P18 | exact P19 | exact P20 | exact P21 | exact P22 | exact P23)) | (apply Part.nilc))) ?_)
            rintro v post H' ⟨rfl, sg8, hM8, rfl⟩ hH
            try simp only [List.cons_append, List.nil_append] at hH
            subst hH
            refine SPL_nil ?_
            refine thenP_n ?_
            refine SP_region ?_
            refine SPL_y (y_move rfl) rfl ?_
            refine SPL_y (y_build B42 rfl rfl (by simp only [fillL, List.foldl_cons, List.foldl_nil, List.set_cons_zero, List.set_cons_succ]; exact rfl)) rfl ?_
            refine SPL_one rfl (SP1_call (cm_push x eb hb V.nil hP6 _ hM8) Tryz.call107 rfl rfl (by repeat (first | exact Part.nil _ | (apply Part.cons; with_reducible (first | exact P0 | exact P1 | exact P2 | exact P3 | exact P4 | exact P5 | exact P6 | exact P7 | exact P8 | exact P9 | exact P10 | exact P11 | exact P12 | exact P13 | exact P14 | exact P15 | exact P16 | exact P17 | exact P18 | exact P19 | exact P20 | exact P21 | exact P22 | exact P23)) | (apply Part.flat; simp only [List.cons_append, List.nil_append]) | (apply Part.cons; (first | exact P0 | exact P1 | exact P2 | exact P3 | exact P4 | exact P5 | exact P6 | exact P7 | exact P8 | exact P9 | exact P10 | exact P11 | exact P12 | exact P13 | exact P14 | exact P15 | exact P16 | exact P17 | exact P18 | exact P19 | exact P20 | exact P21 | exact P22 | exact P23)) | (apply Part.nilc))) ?_)
            rintro v post H' ⟨rfl, sg9, hM9, rfl⟩ hH
            try simp only [List.cons_append, List.nil_append] at hH
            subst hH
            refine SPL_nil ?_
            refine thenP_n ?_
            refine SP_ret ?_
            refine inBlockP_ret (thenP_ret (bodyP_ret (H' := [sg9]) (Res0 rfl) (by repeat (first | exact Part.nil _ | (apply Part.cons; with_reducible (first | exact P0 | exact P1 | exact P2 | exact P3 | exact P4 | exact P5 | exact P6 | exact P7 | exact P8 | exact P9 | exact P10 | exact P11 | exact P12 | exact P13 | exact P14 | exact P15 | exact P16 | exact P17 | exact P18 | exact P19 | exact P20 | exact P21 | exact P22 | exact P23)) | (apply Part.flat; simp only [List.cons_append, List.nil_append]) | (apply Part.cons; (first | exact P0 | exact P1 | exact P2 | exact P3 | exact P4 | exact P5 | exact P6 | exact P7 | exact P8 | exact P9 | exact P10 | exact P11 | exact P12 | exact P13 | exact P14 | exact P15 | exact P16 | exact P17 | exact P18 | exact P19 | exact P20 | exact P21 | exact P22 | exact P23)) | (apply Part.nilc))) ?_))
            exact ⟨rfl, eb, hb, _, Gr.refl _ _, hM9, rfl⟩
          intro h73_4
          first | rw [if_pos h73_4] at hP | rw [if_neg h73_4] at hP | skip
          refine SPL_y (y_assign rfl) rfl ?_
          refine SPL_nil ?_
          refine thenP_n ?_
          refine SP_seq ?_
          refine SP_region ?_
          refine SPL_y (y_move rfl) rfl ?_
          refine SPL_y (y_nil rfl) rfl ?_
          refine SPL_y (y_fa fld_152_0 rfl) rfl ?_
          refine SPL_one rfl (SP1_store Tryz.sizeOf3 rfl rfl rfl (by first | exact U0 | exact U1 | exact U2 | exact U3 | exact U4 | exact U5 | exact U6 | exact U7 | exact U8 | exact U9 | exact U10 | exact U11 | exact U12 | exact U13 | exact U14 | exact U15 | exact U16 | exact U17 | exact U18 | exact U19 | exact U20 | exact U21 | exact U22 | exact U23) (by rfl) ?_)
          refine SPL_nil ?_
          refine thenP_n ?_
          refine SP_seq ?_
          refine SP_seq ?_
          refine SP_region ?_
          refine SPL_y (y_move rfl) rfl ?_
          refine SPL_nil ?_
          refine thenP_n ?_
          refine SP_cond_t rfl ?_
          refine SP_seq ?_
          rw [if_pos h73_4] at hP6
          have hfn6 : 0 ≤ m6.ths[ak].fn ∧ m6.ths[ak].fn < 1000000 := Decidable.byContradiction fun q => by rw [if_neg q] at hP6; cases hP6
          rw [if_pos hfn6] at hP6
          obtain ⟨fk2, hfk2⟩ : ∃ k : Nat, m6.ths[ak].fn = k := ⟨m6.ths[ak].fn.toNat, by omega⟩
          have hP7 : renter (fk2 : Int) [z1] 0 ({ (rset m6 { m6.ths[ak] with st := 4 }) with first := m6.first + 1 }) = some m' := by rw [← hfk2]; exact hP6
          have hff : 0 ≤ m6.first ∧ m6.first ≤ 1000000 := by rw [hf6]; exact hg12
          refine SP_region ?_
          refine SPL_y (y_move rfl) rfl ?_
          refine SPL_y (y_nil rfl) rfl ?_
          refine SPL_y (y_fa fld_142_10 rfl) rfl ?_
          refine SPL_y (y_load Tryz.isAgg3 rfl (by repeat (first | exact Cell.amid hpre rfl | exact Cell.head rfl | apply Cell.tail))) rfl ?_
          refine SPL_y (y_add rfl rfl (by omega)) rfl ?_
          refine SPL_y (y_nil rfl) rfl ?_
          refine SPL_y (y_fa fld_142_10 rfl) rfl ?_
          refine SPL_one rfl (SP1_store Tryz.sizeOf3 rfl rfl rfl (by first | exact U0 | exact U1 | exact U2 | exact U3 | exact U4 | exact U5 | exact U6 | exact U7 | exact U8 | exact U9 | exact U10 | exact U11 | exact U12 | exact U13 | exact U14 | exact U15 | exact U16 | exact U17 | exact U18 | exact U19 | exact U20 | exact U21 | exact U22 | exact U23) (by rfl) ?_)
          refine SPL_nil ?_
          refine thenP_n ?_
          refine SP_draw 6 [(0, 0), (1, 0), (2, 0), (3, 0), (5, 0), (4, 1), (6, 3)] mixed (by kernel_rfl) (fun _ _ _ _ _ h => h) (Part.refl _) ?_
          refine SPO_p rfl (y_move rfl) rfl ?_
          refine SPO_p rfl (y_move rfl) rfl ?_
          refine SPO_p rfl (y_nil rfl) rfl ?_
          refine SPO_p rfl (y_fa fld_152_1 rfl) rfl ?_
          refine SPO_p rfl (y_arr_lh Tryz.underlying277 Tryz.sizeOf42 rfl rfl rfl (by decide)) rfl ?_
          refine SPO_h rfl (y_load Tryz.isAgg3 rfl (by repeat (first | exact Cell.amid hpre rfl | exact Cell.head rfl | apply Cell.tail))) rfl ?_
          rw [hfk2]
          have hM7 : isRm x eb hb ({ (rset m6 { m6.ths[ak] with st := 4 }) with first := m6.first + 1 }) (List.flatten [blk x.b 142 [ptr x.nb, ptr x.tb, Value.slice x.na m6.nodes.length x.nc, I m6.root, Value.slice ca m6.clos.length cc, Value.slice (some ⟨hk, 0, none⟩) m6.ths.length hc', I s0, I s1, I s2, I s3, I s4, I m6.sp, I (ak : Int), I m6.fuel, I (m6.first + 1), S m6.out, .bool m6.done, I m6.ans.e, I m6.ans.n, I m6.ans.m, S m6.ans.s, S m6.ans.t], sX, blk hk 149 (hb.map ptr ++ hsp), sA, List.flatten [blk (hb.getD ak 0) 152 [I 4, I (fk2 : Int), I (m6.ths[ak].depth), Value.slice ta (m6.ths[ak].tasks.length) tc, Value.slice va (m6.ths[ak].vals.length) vc], sa, sv], sZ, R]) := by
            have := hput ({ (rset m6 { m6.ths[ak] with st := 4 }) with first := m6.first + 1 }) s0 s1 s2 s3 s4 ({ m6.ths[ak] with st := 4 }) ta tc va vc sa sv (m6.ths[ak].tasks.length) (m6.ths[ak].vals.length) rfl rfl rfl ?_ rfl rfl hstk rfl rfl (hTA) (hVA) (hTS)
            · rw [← hcc, ← hfk2]; exact this
            · show (rset m6 { m6.ths[ak] with st := 4 }).ths = _; unfold rset; rw [hcc]; rfl
          refine SPO_z (k := 0) rfl rfl (SP1_call (cm_enter x eb hb _ _ (argR1 b5 z0 z1 z2 2) hP7 _ hM7) Tryz.call64 rfl rfl (by repeat (first | exact Part.nil _ | (apply Part.cons; with_reducible (first | exact P0 | exact P1 | exact P2 | exact P3 | exact P4 | exact P5 | exact P6 | exact P7 | exact P8 | exact P9 | exact P10 | exact P11 | exact P12 | exact P13 | exact P14 | exact P15 | exact P16 | exact P17 | exact P18 | exact P19 | exact P20 | exact P21 | exact P22 | exact P23)) | (apply Part.flat; simp only [List.cons_append, List.nil_append]) | (apply Part.cons; (first | exact P0 | exact P1 | exact P2 | exact P3 | exact P4 | exact P5 | exact P6 | exact P7 | exact P8 | exact P9 | exact P10 | exact P11 | exact P12 | exact P13 | exact P14 | exact P15 | exact P16 | exact P17 | exact P18 | exact P19 | exact P20 | exact P21 | exact P22 | exact P23)) | (apply Part.nilc))) ?_)
          rintro v post H' ⟨rfl, ebE, sg9, hpreE, hM9, rfl⟩ hH
          try simp only [List.cons_append, List.nil_append] at hH
          subst hH
          refine SPO_nil ?_
          refine thenP_n ?_
          refine SP_ret ?_
          refine inBlockP_ret (thenP_ret (bodyP_ret (H' := [sg9]) (Res0 rfl) (by repeat (first | exact Part.nil _ | (apply Part.cons; with_reducible (first | exact P0 | exact P1 | exact P2 | exact P3 | exact P4 | exact P5 | exact P6 | exact P7 | exact P8 | exact P9 | exact P10 | exact P11 | exact P12 | exact P13 | exact P14 | exact P15 | exact P16 | exact P17 | exact P18 | exact P19 | exact P20 | exact P21 | exact P22 | exact P23)) | (apply Part.flat; simp only [List.cons_append, List.nil_append]) | (apply Part.cons; (first | exact P0 | exact P1 | exact P2 | exact P3 | exact P4 | exact P5 | exact P6 | exact P7 | exact P8 | exact P9 | exact P10 | exact P11 | exact P12 | exact P13 | exact P14 | exact P15 | exact P16 | exact P17 | exact P18 | exact P19 | exact P20 | exact P21 | exact P22 | exact P23)) | (apply Part.nilc))) ?_))
          exact ⟨rfl, ebE, hb, _, ⟨hpreE, List.prefix_refl _⟩, hM9, rfl⟩
        intro h65_4
        first | rw [if_pos h65_4] at hP | rw [if_neg h65_4] at hP | skip
        refine SPL_y (y_move rfl) rfl ?_
        refine SPL_gy rfl rfl ?_
        refine SPL_y (y_move rfl) rfl ?_
        refine SPL_gy rfl rfl ?_
        refine SPL_y (y_nil rfl) rfl ?_
        refine SPL_gy rfl rfl ?_
        refine SPL_y (y_fa fld_152_0 rfl) rfl ?_
        refine SPL_gy rfl rfl ?_
        refine SPL_y (y_load Tryz.isAgg3 rfl (by repeat (first | exact hTeA _ | apply Cell.tail))) rfl ?_
        refine SPL_gy rfl rfl ?_
        refine SPL_if (y_neq rfl rfl) rfl ?_ ?_
        · intro h65_10
          first | rw [if_pos h65_10] at hP | rw [if_neg h65_10] at hP | skip
          refine SPL_y (y_pick_t rfl rfl) rfl ?_
          refine SPL_nil ?_
          refine thenP_n ?_
          refine SP_cond_t rfl ?_
          refine SP_seq ?_
          rw [if_pos ⟨h65_4, h65_10⟩] at hP
          refine SP_region ?_
          refine SPL_y (y_move rfl) rfl ?_
          refine SPL_y (y_nil rfl) rfl ?_
          refine SPL_y (y_fa fld_152_0 rfl) rfl ?_
          refine SPL_y (y_load Tryz.isAgg3 rfl (by repeat (first | exact hTeA _ | apply Cell.tail))) rfl ?_
          refine SPL_one rfl (SP1_call (api_StatusName m3.ths[ak].st) Tryz.call170 rfl rfl (by repeat (first | exact Part.nil _ | (apply Part.cons; with_reducible (first | exact P0 | exact P1 | exact P2 | exact P3 | exact P4 | exact P5 | exact P6 | exact P7 | exact P8 | exact P9 | exact P10 | exact P11 | exact P12 | exact P13 | exact P14 | exact P15 | exact P16 | exact P17 | exact P18 | exact P19 | exact P20 | exact P21 | exact P22 | exact P23)) | (apply Part.flat; simp only [List.cons_append, List.nil_append]) | (apply Part.cons; (first | exact P0 | exact P1 | exact P2 | exact P3 | exact P4 | exact P5 | exact P6 | exact P7 | exact P8 | exact P9 | exact P10 | exact P11 | exact P12 | exact P13 | exact P14 | exact P15 | exact P16 | exact P17 | exact P18 | exact P19 | exact P20 | exact P21 | exact P22 | exact P23)) | (apply Part.nilc))) ?_)
          rintro v post H' ⟨rfl, rfl⟩ hH
          try simp only [List.cons_append, List.nil_append] at hH
          subst hH
          refine SPL_y (y_assign rfl) rfl ?_
          refine SPL_nil ?_
          refine thenP_n ?_
          refine SP_seq ?_
          refine SP_region ?_
          refine SPL_y (y_build B42 rfl rfl (by simp only [fillL, List.foldl_cons, List.foldl_nil, List.set_cons_zero, List.set_cons_succ]; exact rfl)) rfl ?_
          refine SPL_one rfl (SP1_storeAll Tryz.sizeOf42 rfl rfl rfl rfl rfl (by first | exact U0 | exact U1 | exact U2 | exact U3 | exact U4 | exact U5 | exact U6 | exact U7 | exact U8 | exact U9 | exact U10 | exact U11 | exact U12 | exact U13 | exact U14 | exact U15 | exact U16 | exact U17 | exact U18 | exact U19 | exact U20 | exact U21 | exact U22 | exact U23) (by rfl) ?_)
          refine SPL_nil ?_
          refine thenP_n ?_
          refine SP_region ?_
          refine SPL_y (y_move rfl) rfl ?_
          refine SPL_y (y_build B42 rfl rfl (by simp only [fillL, List.foldl_cons, List.foldl_nil, List.set_cons_zero, List.set_cons_succ]; exact rfl)) rfl ?_
          refine SPL_one rfl (SP1_storeAll Tryz.sizeOf42 rfl rfl rfl rfl rfl (by first | exact U0 | exact U1 | exact U2 | exact U3 | exact U4 | exact U5 | exact U6 | exact U7 | exact U8 | exact U9 | exact U10 | exact U11 | exact U12 | exact U13 | exact U14 | exact U15 | exact U16 | exact U17 | exact U18 | exact U19 | exact U20 | exact U21 | exact U22 | exact U23) (by rfl) ?_)
          refine SPL_nil ?_
          refine inBlockP_n ?_
          refine thenP_n ?_
          exact Mid.intro ((⟨1, 0, []⟩, strK (statusName m3.ths[ak].st), eb, hb, m3, sg3)) (⟨Gr.refl _ _, hM3, hP⟩) (by repeat (first | exact Sub.nil _ | refine Sub.cons rfl ?_)) (by repeat (first | exact Part.nil _ | (apply Part.cons; with_reducible (first | exact P0 | exact P1 | exact P2 | exact P3 | exact P4 | exact P5 | exact P6 | exact P7 | exact P8 | exact P9 | exact P10 | exact P11 | exact P12 | exact P13 | exact P14 | exact P15 | exact P16 | exact P17 | exact P18 | exact P19 | exact P20 | exact P21 | exact P22 | exact P23)) | (apply Part.flat; simp only [List.cons_append, List.nil_append]) | (apply Part.cons; (first | exact P0 | exact P1 | exact P2 | exact P3 | exact P4 | exact P5 | exact P6 | exact P7 | exact P8 | exact P9 | exact P10 | exact P11 | exact P12 | exact P13 | exact P14 | exact P15 | exact P16 | exact P17 | exact P18 | exact P19 | exact P20 | exact P21 | exact P22 | exact P23)) | (apply Part.nilc)))
        intro h65_10
        first | rw [if_neg h65_10] at hP | rw [if_pos (Decidable.not_not.1 h65_10)] at hP | skip
        refine SPL_y (y_pick_t rfl rfl) rfl ?_
        refine SPL_nil ?_
        refine thenP_n ?_
        refine SP_cond_f rfl ?_
        refine SP_seq ?_
        rw [if_neg (fun q => h65_10 q.2)] at hP
        have hcc := hcc3
        have hc := hc3
        have hth := hth3
        clear hTa3 hTb3 hTc3 hTd3 hTe3
        obtain ⟨ca, cc, hk, hc', hsp, s0, s1, s2, s3, s4, sX, sA, sZ, R, ta, tc, va, vc, sa, sv, rfl, hstk, hhl, hTA, hVA, hTS, hput⟩ := isRm_open hM3 hc
        refine SP_openAt [blk x.b 142 [ptr x.nb, ptr x.tb, Value.slice x.na m3.nodes.length x.nc, I m3.root, Value.slice ca m3.clos.length cc, Value.slice (some ⟨hk, 0, none⟩) m3.ths.length hc', I s0, I s1, I s2, I s3, I s4, I m3.sp, I m3.cur, I m3.fuel, I m3.first, S m3.out, .bool m3.done, I m3.ans.e, I m3.ans.n, I m3.ans.m, S m3.ans.s, S m3.ans.t], sX, blk hk 149 (hb.map ptr ++ hsp), sA, List.flatten [blk (hb.getD c 0) 152 [I m3.ths[c].st, I m3.ths[c].fn, I (m3.ths[c].depth), Value.slice ta (m3.ths[c].tasks.length) tc, Value.slice va (m3.ths[c].vals.length) vc], sa, sv], sZ, R] (by first | exact P0 | exact P1 | exact P2 | exact P3 | exact P4 | exact P5 | exact P6 | exact P7 | exact P8 | exact P9 | exact P10 | exact P11 | exact P12 | exact P13 | exact P14 | exact P15 | exact P16 | exact P17 | exact P18 | exact P19 | exact P20 | exact P21 | exact P22 | exact P23) ?_
        simp only [List.cons_append, List.nil_append]
        refine SP_openAt [blk (hb.getD c 0) 152 [I m3.ths[c].st, I m3.ths[c].fn, I (m3.ths[c].depth), Value.slice ta (m3.ths[c].tasks.length) tc, Value.slice va (m3.ths[c].vals.length) vc], sa, sv] (by first | exact P0 | exact P1 | exact P2 | exact P3 | exact P4 | exact P5 | exact P6 | exact P7 | exact P8 | exact P9 | exact P10 | exact P11 | exact P12 | exact P13 | exact P14 | exact P15 | exact P16 | exact P17 | exact P18 | exact P19 | exact P20 | exact P21 | exact P22 | exact P23) ?_
        simp only [List.cons_append, List.nil_append]
        have hcell : ∀ H : Hp, Cell (blk hk 149 (hb.map ptr ++ hsp) :: H) hk (0 + ((c : Nat) : Int).toNat * 1) (ptr (hb.getD c 0)) := fun H => Cell.head (hb_at hhl hc)
        rw [hcc]
        refine SP_region ?_
        refine SPL_y (y_move rfl) rfl ?_
        refine SPL_y (y_nil rfl) rfl ?_
        refine SPL_y (y_fa fld_152_0 rfl) rfl ?_
        refine SPL_one rfl (SP1_store Tryz.sizeOf3 rfl rfl rfl (by first | exact U0 | exact U1 | exact U2 | exact U3 | exact U4 | exact U5 | exact U6 | exact U7 | exact U8 | exact U9 | exact U10 | exact U11 | exact U12 | exact U13 | exact U14 | exact U15 | exact U16 | exact U17 | exact U18 | exact U19 | exact U20 | exact U21 | exact U22 | exact U23) (by rfl) ?_)
        refine SPL_nil ?_
        refine thenP_n ?_
        refine SP_seq ?_
        obtain ⟨spn, hspn⟩ : ∃ k : Nat, m3.sp = k := ⟨m3.sp.toNat, by omega⟩
        rw [hspn]
        rw [show ([ptr x.nb, ptr x.tb, Value.slice x.na m3.nodes.length x.nc, I m3.root, Value.slice ca m3.clos.length cc, Value.slice (some ⟨hk, 0, none⟩) m3.ths.length hc', I s0, I s1, I s2, I s3, I s4, I (spn : Int), I (c : Int), I m3.fuel, I m3.first, S m3.out, .bool m3.done, I m3.ans.e, I m3.ans.n, I m3.ans.m, S m3.ans.s, S m3.ans.t] : List Value) = ([ptr x.nb, ptr x.tb, Value.slice x.na m3.nodes.length x.nc, I m3.root, Value.slice ca m3.clos.length cc, Value.slice (some ⟨hk, 0, none⟩) m3.ths.length hc'] ++ [I s0, I s1, I s2, I s3, I s4] ++ [I (spn : Int), I (c : Int), I m3.fuel, I m3.first, S m3.out, .bool m3.done, I m3.ans.e, I m3.ans.n, I m3.ans.m, S m3.ans.s, S m3.ans.t] : List Value) from rfl]
        refine SP_draw 12 [(0, 0), (1, 0), (2, 0), (3, 0), (5, 0), (6, 0), (7, 0), (9, 0), (10, 0), (4, 1), (8, 1), (11, 0), (12, 3)] mixed (by kernel_rfl) (fun _ _ _ _ _ h => h) (Part.refl _) ?_
        refine SPO_p rfl (y_move rfl) rfl ?_
        refine SPO_p rfl (y_move rfl) rfl ?_
        refine SPO_p rfl (y_nil rfl) rfl ?_
        refine SPO_p rfl (y_fa fld_142_7 rfl) rfl ?_
        refine SPO_p rfl (y_move rfl) rfl ?_
        refine SPO_p rfl (y_nil rfl) rfl ?_
        refine SPO_p rfl (y_fa fld_142_8 rfl) rfl ?_
        refine SPO_p rfl (y_nil rfl) rfl ?_
        refine SPO_p rfl (y_fa fld_142_6 rfl) rfl ?_
        refine SPO_h rfl (y_load Tryz.isAgg3 rfl (by repeat (first | exact Cell.amid hpre rfl | exact Cell.head rfl | apply Cell.tail))) rfl ?_
        refine SPO_h rfl (y_load Tryz.isAgg3 rfl (by repeat (first | exact Cell.amid hpre rfl | exact Cell.head rfl | apply Cell.tail))) rfl ?_
        refine SPO_p rfl (y_ia_arr Tryz.underlying140 Tryz.sizeOf3 rfl rfl (by omega)) rfl ?_
        refine SPO_z (k := 0) rfl rfl (SP1_storeM (o := 0 + 6) (j := ((spn : Nat) : Int).toNat * 1) Tryz.sizeOf3 rfl rfl rfl rfl (by first | exact U0 | exact U1 | exact U2 | exact U3 | exact U4 | exact U5 | exact U6 | exact U7 | exact U8 | exact U9 | exact U10 | exact U11 | exact U12 | exact U13 | exact U14 | exact U15 | exact U16 | exact U17 | exact U18 | exact U19 | exact U20 | exact U21 | exact U22 | exact U23) (ble_of (by simp; omega)) ?_)
        rw [set5 spn]
        obtain ⟨t0, t1, t2, t3, t4, ht5⟩ := five (l := ([s0, s1, s2, s3, s4] : List Int).set spn (c : Int)) (by simp)
        rw [ht5]
        simp only [List.map_cons, List.map_nil, List.cons_append, List.nil_append]
        refine SPO_nil ?_
        refine thenP_n ?_
        refine SP_seq ?_
        refine SP_region ?_
        refine SPL_y (y_move rfl) rfl ?_
        refine SPL_y (y_nil rfl) rfl ?_
        refine SPL_y (y_fa fld_142_7 rfl) rfl ?_
        refine SPL_y (y_load Tryz.isAgg3 rfl (by repeat (first | exact Cell.amid hpre rfl | exact Cell.head rfl | apply Cell.tail))) rfl ?_
        refine SPL_y (y_add rfl rfl (by omega)) rfl ?_
        refine SPL_y (y_nil rfl) rfl ?_
        refine SPL_y (y_fa fld_142_7 rfl) rfl ?_
        refine SPL_one rfl (SP1_store Tryz.sizeOf3 rfl rfl rfl (by first | exact U0 | exact U1 | exact U2 | exact U3 | exact U4 | exact U5 | exact U6 | exact U7 | exact U8 | exact U9 | exact U10 | exact U11 | exact U12 | exact U13 | exact U14 | exact U15 | exact U16 | exact U17 | exact U18 | exact U19 | exact U20 | exact U21 | exact U22 | exact U23) (by rfl) ?_)
        refine SPL_nil ?_
        refine thenP_n ?_
        refine SP_seq ?_
        refine SP_region ?_
        refine SPL_y (y_move rfl) rfl ?_
        refine SPL_y (y_fa fld_42_1 rfl) rfl ?_
        refine SPL_y (y_load Tryz.isAgg40 rfl (by repeat (first | exact Cell.amid hpre rfl | exact Cell.head rfl | apply Cell.tail))) rfl ?_
        rw [hak]
        refine SPL_y (y_conv Tryz.underlying40 Tryz.underlying3 rfl (show IntKind.i64.wrap ((ak : Nat) : Int) = ((ak : Nat) : Int) by rw [IntKind.wrap_i64]; omega)) rfl ?_
        refine SPL_y (y_nil rfl) rfl ?_
        refine SPL_y (y_fa fld_142_8 rfl) rfl ?_
        refine SPL_one rfl (SP1_store Tryz.sizeOf3 rfl rfl rfl (by first | exact U0 | exact U1 | exact U2 | exact U3 | exact U4 | exact U5 | exact U6 | exact U7 | exact U8 | exact U9 | exact U10 | exact U11 | exact U12 | exact U13 | exact U14 | exact U15 | exact U16 | exact U17 | exact U18 | exact U19 | exact U20 | exact U21 | exact U22 | exact U23) (by rfl) ?_)
        refine SPL_nil ?_
        refine thenP_n ?_
        refine SP_seq ?_
        have hM6 : isRm x eb hb ({ (rset m3 { m3.ths[c] with st := 3 }) with stk := m3.stk.set spn (c : Int), sp := (spn : Int) + 1, cur := (ak : Int) }) (List.flatten [blk x.b 142 [ptr x.nb, ptr x.tb, Value.slice x.na m3.nodes.length x.nc, I m3.root, Value.slice ca m3.clos.length cc, Value.slice (some ⟨hk, 0, none⟩) m3.ths.length hc', I t0, I t1, I t2, I t3, I t4, I ((spn : Int) + 1), I (ak : Int), I m3.fuel, I m3.first, S m3.out, .bool m3.done, I m3.ans.e, I m3.ans.n, I m3.ans.m, S m3.ans.s, S m3.ans.t], sX, blk hk 149 (hb.map ptr ++ hsp), sA, List.flatten [blk (hb.getD c 0) 152 [I 3, I m3.ths[c].fn, I (m3.ths[c].depth), Value.slice ta (m3.ths[c].tasks.length) tc, Value.slice va (m3.ths[c].vals.length) vc], sa, sv], sZ, R]) := by
          have := hput ({ (rset m3 { m3.ths[c] with st := 3 }) with stk := m3.stk.set spn (c : Int), sp := (spn : Int) + 1, cur := (ak : Int) }) t0 t1 t2 t3 t4 ({ m3.ths[c] with st := 3 }) ta tc va vc sa sv (m3.ths[c].tasks.length) (m3.ths[c].vals.length) rfl rfl rfl ?_ rfl rfl (by show m3.stk.set spn (c : Int) = _; rw [hstk]; exact ht5) rfl rfl (hTA) (hVA) (hTS)
          · exact this
          · show (rset m3 { m3.ths[c] with st := 3 }).ths = _; unfold rset; rw [hcc]; rfl
        refine SP_part (H' := [List.flatten [blk x.b 142 [ptr x.nb, ptr x.tb, Value.slice x.na m3.nodes.length x.nc, I m3.root, Value.slice ca m3.clos.length cc, Value.slice (some ⟨hk, 0, none⟩) m3.ths.length hc', I t0, I t1, I t2, I t3, I t4, I ((spn : Int) + 1), I (ak : Int), I m3.fuel, I m3.first, S m3.out, .bool m3.done, I m3.ans.e, I m3.ans.n, I m3.ans.m, S m3.ans.s, S m3.ans.t], sX, blk hk 149 (hb.map ptr ++ hsp), sA, List.flatten [blk (hb.getD c 0) 152 [I 3, I m3.ths[c].fn, I (m3.ths[c].depth), Value.slice ta (m3.ths[c].tasks.length) tc, Value.slice va (m3.ths[c].vals.length) vc], sa, sv], sZ, R], blk b5 277 (valV z0 ++ valV z1 ++ valV z2), blk b9 42 (valV z1)]) (by repeat (first | exact Part.nil _ | (apply Part.cons; with_reducible (first | exact P0 | exact P1 | exact P2 | exact P3 | exact P4 | exact P5 | exact P6 | exact P7 | exact P8 | exact P9 | exact P10 | exact P11 | exact P12 | exact P13 | exact P14 | exact P15 | exact P16 | exact P17 | exact P18 | exact P19 | exact P20 | exact P21 | exact P22 | exact P23)) | (apply Part.flat; simp only [List.cons_append, List.nil_append]) | (apply Part.cons; (first | exact P0 | exact P1 | exact P2 | exact P3 | exact P4 | exact P5 | exact P6 | exact P7 | exact P8 | exact P9 | exact P10 | exact P11 | exact P12 | exact P13 | exact P14 | exact P15 | exact P16 | exact P17 | exact P18 | exact P19 | exact P20 | exact P21 | exact P22 | exact P23)) | (apply Part.nilc))) ?_
        obtain ⟨m6, hm6⟩ : ∃ q : RnM, { (rset m3 { m3.ths[c] with st := 3 }) with stk := m3.stk.set spn (c : Int), sp := (spn : Int) + 1, cur := (ak : Int) } = q := ⟨_, rfl⟩
        have hl6 : m6.ths.length = m3.ths.length := by rw [← hm6]; show ((rset m3 { m3.ths[c] with st := 3 }).ths).length = _; unfold rset; simp
        have hcc6 : m6.cur = ak := by rw [← hm6]
        have hc6 : ak < m6.ths.length := by omega
        rw [hth3, hspn, hcc3] at hP
        rw [Int.toNat_natCast] at hP
        have hP6 : (if (m6.ths.getD ak thD).st = 1 then (if 0 ≤ (m6.ths.getD ak thD).fn ∧ (m6.ths.getD ak thD).fn < 1000000 then renter (m6.ths.getD ak thD).fn [z1] 0 { (rset m6 { (m6.ths.getD ak thD) with st := 4 }) with first := m3.first + 1 } else none) else rfin2 z1 V.nil (rset m6 { (m6.ths.getD ak thD) with st := 4 })) = some m' := by
          rw [← hm6]; exact hP
        have hf6 : m6.first = m3.first := by rw [← hm6]; rfl
        rw [getD_th hc6, ← hf6] at hP6
        clear hP
        obtain ⟨sg6, hsg6⟩ : ∃ q : Seg, List.flatten [blk x.b 142 [ptr x.nb, ptr x.tb, Value.slice x.na m3.nodes.length x.nc, I m3.root, Value.slice ca m3.clos.length cc, Value.slice (some ⟨hk, 0, none⟩) m3.ths.length hc', I t0, I t1, I t2, I t3, I t4, I ((spn : Int) + 1), I (ak : Int), I m3.fuel, I m3.first, S m3.out, .bool m3.done, I m3.ans.e, I m3.ans.n, I m3.ans.m, S m3.ans.s, S m3.ans.t], sX, blk hk 149 (hb.map ptr ++ hsp), sA, List.flatten [blk (hb.getD c 0) 152 [I 3, I m3.ths[c].fn, I (m3.ths[c].depth), Value.slice ta (m3.ths[c].tasks.length) tc, Value.slice va (m3.ths[c].vals.length) vc], sa, sv], sZ, R] = q := ⟨_, rfl⟩
        rw [hm6, hsg6] at hM6
        rw [hsg6]
        clear hput hstk hTA hVA hTS hcell hsg6
        have hcc := hcc6
        have hc := hc6
        obtain ⟨ca, cc, hk, hc', hsp, s0, s1, s2, s3, s4, sX, sA, sZ, R, ta, tc, va, vc, sa, sv, rfl, hstk, hhl, hTA, hVA, hTS, hput⟩ := isRm_open hM6 hc
        refine SP_openAt [blk x.b 142 [ptr x.nb, ptr x.tb, Value.slice x.na m6.nodes.length x.nc, I m6.root, Value.slice ca m6.clos.length cc, Value.slice (some ⟨hk, 0, none⟩) m6.ths.length hc', I s0, I s1, I s2, I s3, I s4, I m6.sp, I m6.cur, I m6.fuel, I m6.first, S m6.out, .bool m6.done, I m6.ans.e, I m6.ans.n, I m6.ans.m, S m6.ans.s, S m6.ans.t], sX, blk hk 149 (hb.map ptr ++ hsp), sA, List.flatten [blk (hb.getD ak 0) 152 [I m6.ths[ak].st, I m6.ths[ak].fn, I (m6.ths[ak].depth), Value.slice ta (m6.ths[ak].tasks.length) tc, Value.slice va (m6.ths[ak].vals.length) vc], sa, sv], sZ, R] (by first | exact P0 | exact P1 | exact P2 | exact P3 | exact P4 | exact P5 | exact P6 | exact P7 | exact P8 | exact P9 | exact P10 | exact P11 | exact P12 | exact P13 | exact P14 | exact P15 | exact P16 | exact P17 | exact P18 | exact P19 | exact P20 | exact P21 | exact P22 | exact P23) ?_
        simp only [List.cons_append, List.nil_append]
        refine SP_openAt [blk (hb.getD ak 0) 152 [I m6.ths[ak].st, I m6.ths[ak].fn, I (m6.ths[ak].depth), Value.slice ta (m6.ths[ak].tasks.length) tc, Value.slice va (m6.ths[ak].vals.length) vc], sa, sv] (by first | exact P0 | exact P1 | exact P2 | exact P3 | exact P4 | exact P5 | exact P6 | exact P7 | exact P8 | exact P9 | exact P10 | exact P11 | exact P12 | exact P13 | exact P14 | exact P15 | exact P16 | exact P17 | exact P18 | exact P19 | exact P20 | exact P21 | exact P22 | exact P23) ?_
        simp only [List.cons_append, List.nil_append]
        have hcell : ∀ H : Hp, Cell (blk hk 149 (hb.map ptr ++ hsp) :: H) hk (0 + ((ak : Nat) : Int).toNat * 1) (ptr (hb.getD ak 0)) := fun H => Cell.head (hb_at hhl hc)
        rw [hcc]
        refine SP_region ?_
        refine SPL_y (y_move rfl) rfl ?_
        refine SPL_y (y_nil rfl) rfl ?_
        refine SPL_y (y_fa fld_152_0 rfl) rfl ?_
        refine SPL_y (y_load Tryz.isAgg3 rfl (by repeat (first | exact Cell.amid hpre rfl | exact Cell.head rfl | apply Cell.tail))) rfl ?_
        refine SPL_ifn (y_eql rfl rfl) rfl ?_ ?_
        · intro h73_4
          first | rw [if_neg h73_4] at hP | rw [if_pos (Decidable.not_not.1 h73_4)] at hP | skip
          refine SPL_y (y_assign rfl) rfl ?_
          refine SPL_nil ?_
          refine thenP_n ?_
          refine SP_seq ?_
          refine SP_region ?_
          refine SPL_y (y_move rfl) rfl ?_
          refine SPL_y (y_nil rfl) rfl ?_
          refine SPL_y (y_fa fld_152_0 rfl) rfl ?_
          refine SPL_one rfl (SP1_store Tryz.sizeOf3 rfl rfl rfl (by first | exact U0 | exact U1 | exact U2 | exact U3 | exact U4 | exact U5 | exact U6 | exact U7 | exact U8 | exact U9 | exact U10 | exact U11 | exact U12 | exact U13 | exact U14 | exact U15 | exact U16 | exact U17 | exact U18 | exact U19 | exact U20 | exact U21 | exact U22 | exact U23) (by rfl) ?_)
          refine SPL_nil ?_
          refine thenP_n ?_
          refine SP_seq ?_
          refine SP_seq ?_
          refine SP_region ?_
          refine SPL_y (y_move rfl) rfl ?_
          refine SPL_nil ?_
          refine thenP_n ?_
          refine SP_cond_f rfl ?_
          refine SP_seq ?_
          rw [if_neg h73_4] at hP6
          unfold rfin2 at hP6
          obtain ⟨m8, hq8, hP6⟩ := bnd1 hP6
          have hM7 : isRm x eb hb (rset m6 { m6.ths[ak] with st := 4 }) (List.flatten [blk x.b 142 [ptr x.nb, ptr x.tb, Value.slice x.na m6.nodes.length x.nc, I m6.root, Value.slice ca m6.clos.length cc, Value.slice (some ⟨hk, 0, none⟩) m6.ths.length hc', I s0, I s1, I s2, I s3, I s4, I m6.sp, I (ak : Int), I m6.fuel, I m6.first, S m6.out, .bool m6.done, I m6.ans.e, I m6.ans.n, I m6.ans.m, S m6.ans.s, S m6.ans.t], sX, blk hk 149 (hb.map ptr ++ hsp), sA, List.flatten [blk (hb.getD ak 0) 152 [I 4, I m6.ths[ak].fn, I (m6.ths[ak].depth), Value.slice ta (m6.ths[ak].tasks.length) tc, Value.slice va (m6.ths[ak].vals.length) vc], sa, sv], sZ, R]) := by
            have := hput (rset m6 { m6.ths[ak] with st := 4 }) s0 s1 s2 s3 s4 ({ m6.ths[ak] with st := 4 }) ta tc va vc sa sv (m6.ths[ak].tasks.length) (m6.ths[ak].vals.length) rfl rfl rfl ?_ rfl rfl hstk rfl rfl (hTA) (hVA) (hTS)
            · rw [← hcc]; exact this
            · show (rset m6 { m6.ths[ak] with st := 4 }).ths = _; unfold rset; rw [hcc]; rfl
          refine SP_part (H' := [List.flatten [blk x.b 142 [ptr x.nb, ptr x.tb, Value.slice x.na m6.nodes.length x.nc, I m6.root, Value.slice ca m6.clos.length cc, Value.slice (some ⟨hk, 0, none⟩) m6.ths.length hc', I s0, I s1, I s2, I s3, I s4, I m6.sp, I (ak : Int), I m6.fuel, I m6.first, S m6.out, .bool m6.done, I m6.ans.e, I m6.ans.n, I m6.ans.m, S m6.ans.s, S m6.ans.t], sX, blk hk 149 (hb.map ptr ++ hsp), sA, List.flatten [blk (hb.getD ak 0) 152 [I 4, I m6.ths[ak].fn, I (m6.ths[ak].depth), Value.slice ta (m6.ths[ak].tasks.length) tc, Value.slice va (m6.ths[ak].vals.length) vc], sa, sv], sZ, R], blk b5 277 (valV z0 ++ valV z1 ++ valV z2), blk b9 42 (valV z1)]) (by repeat (first | exact Part.nil _ | (apply Part.cons; with_reducible (first | exact P0 | exact P1 | exact P2 | exact P3 | exact P4 | exact P5 | exact P6 | exact P7 | exact P8 | exact P9 | exact P10 | exact P11 | exact P12 | exact P13 | exact P14 | exact P15 | exact P16 | exact P17 | exact P18 | exact P19 | exact P20 | exact P21 | exact P22 | exact P23)) | (apply Part.flat; simp only [List.cons_append, List.nil_append]) | (apply Part.cons; (first | exact P0 | exact P1 | exact P2 | exact P3 | exact P4 | exact P5 | exact P6 | exact P7 | exact P8 | exact P9 | exact P10 | exact P11 | exact P12 | exact P13 | exact P14 | exact P15 | exact P16 | exact P17 | exact P18 | exact P19 | exact P20 | exact P21 | exact P22 | exact P23)) | (apply Part.nilc))) ?_
          refine SP_region ?_
          refine SPL_y (y_move rfl) rfl ?_
          refine SPL_y (y_loads Tryz.isAgg42 Tryz.sizeOf42 rfl rfl (by repeat (first | exact Cells.all _ | exact Cells.amid hpre rfl (by decide) | exact Cells.head rfl | apply Cells.tail))) rfl ?_
          refine SPL_one rfl (SP1_call (cm_push x eb hb z1 hq8 _ hM7) Tryz.call107 rfl rfl (by repeat (first | exact Part.nil _ | (apply Part.cons; with_reducible (first | exact P0 | exact P1 | exact P2 | exact P3 | exact P4 | exact P5 | exact P6 | exact P7 | exact P8 | exact P9 | exact P10 | exact P11 | exact P12 | exact P13 | exact P14 | exact P15 | exact P16 | exact P17 | exact P18 | exact P19 | exact P20 | exact P21 | exact P22 | exact P23)) | (apply Part.flat; simp only [List.cons_append, List.nil_append]) | (apply Part.cons; (first | exact P0 | exact P1 | exact P2 | exact P3 | exact P4 | exact P5 | exact P6 | exact P7 | exact P8 | exact P9 | exact P10 | exact P11 | exact P12 | exact P13 | exact P14 | exact P15 | exact P16 | exact P17 | exact P18 | exact P19 | exact P20 | exact P21 | exact P22 | exact P23)) | (apply Part.nilc))) ?_)
          rintro v post H' ⟨rfl, sg8, hM8, rfl⟩ hH
          try simp only [List.cons_append, List.nil_append] at hH
          subst hH
          refine SPL_nil ?_
          refine thenP_n ?_
          refine SP_region ?_
          refine SPL_y (y_move rfl) rfl ?_
          refine SPL_y (y_build B42 rfl rfl (by simp only [fillL, List.foldl_cons, List.foldl_nil, List.set_cons_zero, List.set_cons_succ]; exact rfl)) rfl ?_
          refine SPL_one rfl (SP1_call (cm_push x eb hb V.nil hP6 _ hM8) Tryz.call107 rfl rfl (by repeat (first | exact Part.nil _ | (apply Part.cons; with_reducible (first | exact P0 | exact P1 | exact P2 | exact P3 | exact P4 | exact P5 | exact P6 | exact P7 | exact P8 | exact P9 | exact P10 | exact P11 | exact P12 | exact P13 | exact P14 | exact P15 | exact P16 | exact P17 | exact P18 | exact P19 | exact P20 | exact P21 | exact P22 | exact P23)) | (apply Part.flat; simp only [List.cons_append, List.nil_append]) | (apply Part.cons; (first | exact P0 | exact P1 | exact P2 | exact P3 | exact P4 | exact P5 | exact P6 | exact P7 | exact P8 | exact P9 | exact P10 | exact P11 | exact P12 | exact P13 | exact P14 | exact P15 | exact P16 | exact P17 | exact P18 | exact P19 | exact P20 | exact P21 | exact P22 | exact P23)) | (apply Part.nilc))) ?_)
          rintro v post H' ⟨rfl, sg9, hM9, rfl⟩ hH
          try simp only [List.cons_append, List.nil_append] at hH
          subst hH
          refine SPL_nil ?_
          refine thenP_n ?_
          refine SP_ret ?_
          refine inBlockP_ret (thenP_ret (bodyP_ret (H' := [sg9]) (Res0 rfl) (by repeat (first | exact Part.nil _ | (apply Part.cons; with_reducible (first | exact P0 | exact P1 | exact P2 | exact P3 | exact P4 | exact P5 | exact P6 | exact P7 | exact P8 | exact P9 | exact P10 | exact P11 | exact P12 | exact P13 | exact P14 | exact P15 | exact P16 | exact P17 | exact P18 | exact P19 | exact P20 | exact P21 | exact P22 | exact P23)) | (apply Part.flat; simp only [List.cons_append, List.nil_append]) | (apply Part.cons; (first | exact P0 | exact P1 | exact P2 | exact P3 | exact P4 | exact P5 | exact P6 | exact P7 | exact P8 | exact P9 | exact P10 | exact P11 | exact P12 | exact P13 | exact P14 | exact P15 | exact P16 | exact P17 | exact P18 | exact P19 | exact P20 | exact P21 | exact P22 | exact P23)) | (apply Part.nilc))) ?_))
          exact ⟨rfl, eb, hb, _, Gr.refl _ _, hM9, rfl⟩
        intro h73_4
        first | rw [if_pos h73_4] at hP | rw [if_neg h73_4] at hP | skip
        refine SPL_y (y_assign rfl) rfl ?_
        refine SPL_nil ?_
        refine thenP_n ?_
        refine SP_seq ?_
        refine SP_region ?_
        refine SPL_y (y_move rfl) rfl ?_
        refine SPL_y (y_nil rfl) rfl ?_
        refine SPL_y (y_fa fld_152_0 rfl) rfl ?_
        refine SPL_one rfl (SP1_store Tryz.sizeOf3 rfl rfl rfl (by first | exact U0 | exact U1 | exact U2 | exact U3 | exact U4 | exact U5 | exact U6 | exact U7 | exact U8 | exact U9 | exact U10 | exact U11 | exact U12 | exact U13 | exact U14 | exact U15 | exact U16 | exact U17 | exact U18 | exact U19 | exact U20 | exact U21 | exact U22 | exact U23) (by rfl) ?_)
        refine SPL_nil ?_
        refine thenP_n ?_
        refine SP_seq ?_
        refine SP_seq ?_
        refine SP_region ?_
        refine SPL_y (y_move rfl) rfl ?_
        refine SPL_nil ?_
        refine thenP_n ?_
        refine SP_cond_t rfl ?_
        refine SP_seq ?_
        rw [if_pos h73_4] at hP6
        have hfn6 : 0 ≤ m6.ths[ak].fn ∧ m6.ths[ak].fn < 1000000 := Decidable.byContradiction fun q => by rw [if_neg q] at hP6; cases hP6
        rw [if_pos hfn6] at hP6
        obtain ⟨fk2, hfk2⟩ : ∃ k : Nat, m6.ths[ak].fn = k := ⟨m6.ths[ak].fn.toNat, by omega⟩
        have hP7 : renter (fk2 : Int) [z1] 0 ({ (rset m6 { m6.ths[ak] with st := 4 }) with first := m6.first + 1 }) = some m' := by rw [← hfk2]; exact hP6
        have hff : 0 ≤ m6.first ∧ m6.first ≤ 1000000 := by rw [hf6]; exact hg12
        refine SP_region ?_
        refine SPL_y (y_move rfl) rfl ?_
        refine SPL_y (y_nil rfl) rfl ?_
        refine SPL_y (y_fa fld_142_10 rfl) rfl ?_
        refine SPL_y (y_load Tryz.isAgg3 rfl (by repeat (first | exact Cell.amid hpre rfl | exact Cell.head rfl | apply Cell.tail))) rfl ?_
        refine SPL_y (y_add rfl rfl (by omega)) rfl ?_
        refine SPL_y (y_nil rfl) rfl ?_
        refine SPL_y (y_fa fld_142_10 rfl) rfl ?_
        refine SPL_one rfl (SP1_store Tryz.sizeOf3 rfl rfl rfl (by first | exact U0 | exact U1 | exact U2 | exact U3 | exact U4 | exact U5 | exact U6 | exact U7 | exact U8 | exact U9 | exact U10 | exact U11 | exact U12 | exact U13 | exact U14 | exact U15 | exact U16 | exact U17 | exact U18 | exact U19 | exact U20 | exact U21 | exact U22 | exact U23) (by rfl) ?_)
        refine SPL_nil ?_
        refine thenP_n ?_
        refine SP_draw 6 [(0, 0), (1, 0), (2, 0), (3, 0), (5, 0), (4, 1), (6, 3)] mixed (by kernel_rfl) (fun _ _ _ _ _ h => h) (Part.refl _) ?_
        refine SPO_p rfl (y_move rfl) rfl ?_
        refine SPO_p rfl (y_move rfl) rfl ?_
        refine SPO_p rfl (y_nil rfl) rfl ?_
        refine SPO_p rfl (y_fa fld_152_1 rfl) rfl ?_
        refine SPO_p rfl (y_arr_lh Tryz.underlying277 Tryz.sizeOf42 rfl rfl rfl (by decide)) rfl ?_
        refine SPO_h rfl (y_load Tryz.isAgg3 rfl (by repeat (first | exact Cell.amid hpre rfl | exact Cell.head rfl | apply Cell.tail))) rfl ?_
        rw [hfk2]
        have hM7 : isRm x eb hb ({ (rset m6 { m6.ths[ak] with st := 4 }) with first := m6.first + 1 }) (List.flatten [blk x.b 142 [ptr x.nb, ptr x.tb, Value.slice x.na m6.nodes.length x.nc, I m6.root, Value.slice ca m6.clos.length cc, Value.slice (some ⟨hk, 0, none⟩) m6.ths.length hc', I s0, I s1, I s2, I s3, I s4, I m6.sp, I (ak : Int), I m6.fuel, I (m6.first + 1), S m6.out, .bool m6.done, I m6.ans.e, I m6.ans.n, I m6.ans.m, S m6.ans.s, S m6.ans.t], sX, blk hk 149 (hb.map ptr ++ hsp), sA, List.flatten [blk (hb.getD ak 0) 152 [I 4, I (fk2 : Int), I (m6.ths[ak].depth), Value.slice ta (m6.ths[ak].tasks.length) tc, Value.slice va (m6.ths[ak].vals.length) vc], sa, sv], sZ, R]) := by
          have := hput ({ (rset m6 { m6.ths[ak] with st := 4 }) with first := m6.first + 1 }) s0 s1 s2 s3 s4 ({ m6.ths[ak] with st := 4 }) ta tc va vc sa sv (m6.ths[ak].tasks.length) (m6.ths[ak].vals.length) rfl rfl rfl ?_ rfl rfl hstk rfl rfl (hTA) (hVA) (hTS)
          · rw [← hcc, ← hfk2]; exact this
          · show (rset m6 { m6.ths[ak] with st := 4 }).ths = _; unfold rset; rw [hcc]; rfl
        refine SPO_z (k := 0) rfl rfl (SP1_call (cm_enter x eb hb _ _ (argR1 b5 z0 z1 z2 2) hP7 _ hM7) Tryz.call64 rfl rfl (by repeat (first | exact Part.nil _ | (apply Part.cons; with_reducible (first | exact P0 | exact P1 | exact P2 | exact P3 | exact P4 | exact P5 | exact P6 | exact P7 | exact P8 | exact P9 | exact P10 | exact P11 | exact P12 | exact P13 | exact P14 | exact P15 | exact P16 | exact P17 | exact P18 | exact P19 | exact P20 | exact P21 | exact P22 | exact P23)) | (apply Part.flat; simp only [List.cons_append, List.nil_append]) | (apply Part.cons; (first | exact P0 | exact P1 | exact P2 | exact P3 | exact P4 | exact P5 | exact P6 | exact P7 | exact P8 | exact P9 | exact P10 | exact P11 | exact P12 | exact P13 | exact P14 | exact P15 | exact P16 | exact P17 | exact P18 | exact P19 | exact P20 | exact P21 | exact P22 | exact P23)) | (apply Part.nilc))) ?_)
        rintro v post H' ⟨rfl, ebE, sg9, hpreE, hM9, rfl⟩ hH
        try simp only [List.cons_append, List.nil_append] at hH
        subst hH
        refine SPO_nil ?_
        refine thenP_n ?_
        refine SP_ret ?_
        refine inBlockP_ret (thenP_ret (bodyP_ret (H' := [sg9]) (Res0 rfl) (by repeat (first | exact Part.nil _ | (apply Part.cons; with_reducible (first | exact P0 | exact P1 | exact P2 | exact P3 | exact P4 | exact P5 | exact P6 | exact P7 | exact P8 | exact P9 | exact P10 | exact P11 | exact P12 | exact P13 | exact P14 | exact P15 | exact P16 | exact P17 | exact P18 | exact P19 | exact P20 | exact P21 | exact P22 | exact P23)) | (apply Part.flat; simp only [List.cons_append, List.nil_append]) | (apply Part.cons; (first | exact P0 | exact P1 | exact P2 | exact P3 | exact P4 | exact P5 | exact P6 | exact P7 | exact P8 | exact P9 | exact P10 | exact P11 | exact P12 | exact P13 | exact P14 | exact P15 | exact P16 | exact P17 | exact P18 | exact P19 | exact P20 | exact P21 | exact P22 | exact P23)) | (apply Part.nilc))) ?_))
        exact ⟨rfl, ebE, hb, _, ⟨hpreE, List.prefix_refl _⟩, hM9, rfl⟩
      clear hP
      rintro ⟨p, q, eb8, hb8, m8, sg8⟩ ⟨hgr, hM8, hP⟩
      dsimp only at hgr hM8 hP ⊢
      unfold rfin2 at hP
      refine SP_seq ?_
      obtain ⟨m9, hq9, hP⟩ := bnd1 hP
      refine SP_region ?_
      refine SPL_y (y_move rfl) rfl ?_
      refine SPL_y (y_loads Tryz.isAgg42 Tryz.sizeOf42 rfl rfl (by repeat (first | exact Cells.all _ | exact Cells.amid hpre rfl (by decide) | exact Cells.head rfl | apply Cells.tail))) rfl ?_
      refine SPL_one rfl (SP1_call (cm_push x eb8 hb8 p hq9 _ hM8) Tryz.call107 rfl rfl (by repeat (first | exact Part.nil _ | (apply Part.cons; with_reducible (first | exact P0 | exact P1 | exact P2 | exact P3 | exact P4 | exact P5 | exact P6 | exact P7 | exact P8 | exact P9 | exact P10 | exact P11 | exact P12 | exact P13 | exact P14 | exact P15 | exact P16 | exact P17 | exact P18 | exact P19 | exact P20 | exact P21 | exact P22 | exact P23)) | (apply Part.flat; simp only [List.cons_append, List.nil_append]) | (apply Part.cons; (first | exact P0 | exact P1 | exact P2 | exact P3 | exact P4 | exact P5 | exact P6 | exact P7 | exact P8 | exact P9 | exact P10 | exact P11 | exact P12 | exact P13 | exact P14 | exact P15 | exact P16 | exact P17 | exact P18 | exact P19 | exact P20 | exact P21 | exact P22 | exact P23)) | (apply Part.nilc))) ?_)
      rintro v post H' ⟨rfl, sg10, hM10, rfl⟩ hH
      try simp only [List.cons_append, List.nil_append] at hH
      subst hH
      refine SPL_nil ?_
      refine thenP_n ?_
      refine SP_region ?_
      refine SPL_y (y_move rfl) rfl ?_
      refine SPL_y (y_loads Tryz.isAgg42 Tryz.sizeOf42 rfl rfl (by repeat (first | exact Cells.all _ | exact Cells.amid hpre rfl (by decide) | exact Cells.head rfl | apply Cells.tail))) rfl ?_
      refine SPL_one rfl (SP1_call (cm_push x eb8 hb8 q hP _ hM10) Tryz.call107 rfl rfl (by repeat (first | exact Part.nil _ | (apply Part.cons; with_reducible (first | exact P0 | exact P1 | exact P2 | exact P3 | exact P4 | exact P5 | exact P6 | exact P7 | exact P8 | exact P9 | exact P10 | exact P11 | exact P12 | exact P13 | exact P14 | exact P15 | exact P16 | exact P17 | exact P18 | exact P19 | exact P20 | exact P21 | exact P22 | exact P23)) | (apply Part.flat; simp only [List.cons_append, List.nil_append]) | (apply Part.cons; (first | exact P0 | exact P1 | exact P2 | exact P3 | exact P4 | exact P5 | exact P6 | exact P7 | exact P8 | exact P9 | exact P10 | exact P11 | exact P12 | exact P13 | exact P14 | exact P15 | exact P16 | exact P17 | exact P18 | exact P19 | exact P20 | exact P21 | exact P22 | exact P23)) | (apply Part.nilc))) ?_)
      rintro v post H' ⟨rfl, sg9, hM9, rfl⟩ hH
      try simp only [List.cons_append, List.nil_append] at hH
      subst hH
      refine SPL_nil ?_
      refine bodyP_end (H' := [sg9]) (Res0 rfl) (by repeat (first | exact Part.nil _ | (apply Part.cons; with_reducible (first | exact P0 | exact P1 | exact P2 | exact P3 | exact P4 | exact P5 | exact P6 | exact P7 | exact P8 | exact P9 | exact P10 | exact P11 | exact P12 | exact P13 | exact P14 | exact P15 | exact P16 | exact P17 | exact P18 | exact P19 | exact P20 | exact P21 | exact P22 | exact P23)) | (apply Part.flat; simp only [List.cons_append, List.nil_append]) | (apply Part.cons; (first | exact P0 | exact P1 | exact P2 | exact P3 | exact P4 | exact P5 | exact P6 | exact P7 | exact P8 | exact P9 | exact P10 | exact P11 | exact P12 | exact P13 | exact P14 | exact P15 | exact P16 | exact P17 | exact P18 | exact P19 | exact P20 | exact P21 | exact P22 | exact P23)) | (apply Part.nilc))) ?_
      exact ⟨rfl, eb8, hb8, _, hgr, hM9, rfl⟩
    · refine SP_seq ?_
      refine SP_seq ?_
      refine SP_region ?_
      refine SPL_y (y_move rfl) rfl ?_
      refine SPL_ifn (y_geq rfl rfl) rfl ?_ ?_
      · intro h4_1
        first | rw [if_neg h4_1] at hP | rw [if_pos (Decidable.not_not.1 h4_1)] at hP | skip
        exact absurd (by omega) h4_1
      intro h4_1
      first | rw [if_pos h4_1] at hP | rw [if_neg h4_1] at hP | skip
      refine SPL_nil ?_
      refine thenP_n ?_
      refine SP_cond_t rfl ?_
      refine SP_skip ?_
      refine thenP_n ?_
      refine SP_seq ?_
      refine SP_block ?_
      refine SP_region ?_
      refine SPL_y (y_move rfl) rfl ?_
      refine SPL_y (y_move rfl) rfl ?_
      obtain ⟨v4, m4, l1, hq4, hpn1, rfl⟩ := popN_go hpl
      refine SPL_one rfl (SP1_call (cm_pop x eb hb hq4 _ hM5) Tryz.call99 rfl rfl (by repeat (first | exact Part.nil _ | (apply Part.cons; with_reducible (first | exact P0 | exact P1 | exact P2 | exact P3 | exact P4 | exact P5 | exact P6 | exact P7 | exact P8 | exact P9 | exact P10 | exact P11 | exact P12 | exact P13 | exact P14 | exact P15 | exact P16 | exact P17 | exact P18 | exact P19 | exact P20 | exact P21 | exact P22 | exact P23)) | (apply Part.flat; simp only [List.cons_append, List.nil_append]) | (apply Part.cons; (first | exact P0 | exact P1 | exact P2 | exact P3 | exact P4 | exact P5 | exact P6 | exact P7 | exact P8 | exact P9 | exact P10 | exact P11 | exact P12 | exact P13 | exact P14 | exact P15 | exact P16 | exact P17 | exact P18 | exact P19 | exact P20 | exact P21 | exact P22 | exact P23)) | (apply Part.nilc))) ?_)
      rintro v post H' ⟨rfl, sg4, hM4, rfl⟩ hH
      try simp only [List.cons_append, List.nil_append] at hH
      subst hH
      refine SPL_y (y_ia_arr Tryz.underlying277 Tryz.sizeOf42 rfl rfl (by decide)) rfl ?_
      refine SPL_one rfl (SP1_storesAt Tryz.sizeOf42 rfl rfl rfl rfl rfl (by first | exact U0 | exact U1 | exact U2 | exact U3 | exact U4 | exact U5 | exact U6 | exact U7 | exact U8 | exact U9 | exact U10 | exact U11 | exact U12 | exact U13 | exact U14 | exact U15 | exact U16 | exact U17 | exact U18 | exact U19 | exact U20 | exact U21 | exact U22 | exact U23) (by rfl) ?_)
      refine SPL_nil ?_
      refine inBlockP_n ?_
      refine thenP_n ?_
      refine SP_region ?_
      refine SPL_y (y_move rfl) rfl ?_
      refine SPL_y (y_sub rfl rfl (by omega)) rfl ?_
      refine SPL_y (y_assign rfl) rfl ?_
      refine SPL_nil ?_
      refine thenP_n ?_
      exact Again.intro ((0, (0 : Int) - 1, v4, z1, z2, m4, sg4)) (⟨hM4, by first | rfl | simp, by dsimp only; omega, l1, hpn1, by rw [hagl]; exact tk1 (by omega), fun q => absurd q (by omega), hz1, hz2⟩) (by dsimp only; omega) (by repeat (first | exact Sub.nil _ | refine Sub.cons rfl ?_)) (by repeat (first | exact Part.nil _ | (apply Part.cons; with_reducible (first | exact P0 | exact P1 | exact P2 | exact P3 | exact P4 | exact P5 | exact P6 | exact P7 | exact P8 | exact P9 | exact P10 | exact P11 | exact P12 | exact P13 | exact P14 | exact P15 | exact P16 | exact P17 | exact P18 | exact P19 | exact P20 | exact P21 | exact P22 | exact P23)) | (apply Part.flat; simp only [List.cons_append, List.nil_append]) | (apply Part.cons; (first | exact P0 | exact P1 | exact P2 | exact P3 | exact P4 | exact P5 | exact P6 | exact P7 | exact P8 | exact P9 | exact P10 | exact P11 | exact P12 | exact P13 | exact P14 | exact P15 | exact P16 | exact P17 | exact P18 | exact P19 | exact P20 | exact P21 | exact P22 | exact P23)) | (apply Part.nilc)))
    · refine SP_seq ?_
      refine SP_seq ?_
      refine SP_region ?_
      refine SPL_y (y_move rfl) rfl ?_
      refine SPL_ifn (y_geq rfl rfl) rfl ?_ ?_
      · intro h4_1
        first | rw [if_neg h4_1] at hP | rw [if_pos (Decidable.not_not.1 h4_1)] at hP | skip
        exact absurd (by omega) h4_1
      intro h4_1
      first | rw [if_pos h4_1] at hP | rw [if_neg h4_1] at hP | skip
      refine SPL_nil ?_
      refine thenP_n ?_
      refine SP_cond_t rfl ?_
      refine SP_skip ?_
      refine thenP_n ?_
      refine SP_seq ?_
      refine SP_block ?_
      refine SP_region ?_
      refine SPL_y (y_move rfl) rfl ?_
      refine SPL_y (y_move rfl) rfl ?_
      obtain ⟨v4, m4, l1, hq4, hpn1, rfl⟩ := popN_go hpl
      refine SPL_one rfl (SP1_call (cm_pop x eb hb hq4 _ hM5) Tryz.call99 rfl rfl (by repeat (first | exact Part.nil _ | (apply Part.cons; with_reducible (first | exact P0 | exact P1 | exact P2 | exact P3 | exact P4 | exact P5 | exact P6 | exact P7 | exact P8 | exact P9 | exact P10 | exact P11 | exact P12 | exact P13 | exact P14 | exact P15 | exact P16 | exact P17 | exact P18 | exact P19 | exact P20 | exact P21 | exact P22 | exact P23)) | (apply Part.flat; simp only [List.cons_append, List.nil_append]) | (apply Part.cons; (first | exact P0 | exact P1 | exact P2 | exact P3 | exact P4 | exact P5 | exact P6 | exact P7 | exact P8 | exact P9 | exact P10 | exact P11 | exact P12 | exact P13 | exact P14 | exact P15 | exact P16 | exact P17 | exact P18 | exact P19 | exact P20 | exact P21 | exact P22 | exact P23)) | (apply Part.nilc))) ?_)
      rintro v post H' ⟨rfl, sg4, hM4, rfl⟩ hH
      try simp only [List.cons_append, List.nil_append] at hH
      subst hH
      refine SPL_y (y_ia_arr Tryz.underlying277 Tryz.sizeOf42 rfl rfl (by decide)) rfl ?_
      refine SPL_one rfl (SP1_storesAt Tryz.sizeOf42 rfl rfl rfl rfl rfl (by first | exact U0 | exact U1 | exact U2 | exact U3 | exact U4 | exact U5 | exact U6 | exact U7 | exact U8 | exact U9 | exact U10 | exact U11 | exact U12 | exact U13 | exact U14 | exact U15 | exact U16 | exact U17 | exact U18 | exact U19 | exact U20 | exact U21 | exact U22 | exact U23) (by rfl) ?_)
      refine SPL_nil ?_
      refine inBlockP_n ?_
      refine thenP_n ?_
      refine SP_region ?_
      refine SPL_y (y_move rfl) rfl ?_
      refine SPL_y (y_sub rfl rfl (by omega)) rfl ?_
      refine SPL_y (y_assign rfl) rfl ?_
      refine SPL_nil ?_
      refine thenP_n ?_
      exact Again.intro ((1, (1 : Int) - 1, z0, v4, z2, m4, sg4)) (⟨hM4, by first | rfl | simp, by dsimp only; omega, l1, hpn1, by rw [hagl]; exact tk2 (by omega), hz0, fun q => absurd q (by omega), hz2⟩) (by dsimp only; omega) (by repeat (first | exact Sub.nil _ | refine Sub.cons rfl ?_)) (by repeat (first | exact Part.nil _ | (apply Part.cons; with_reducible (first | exact P0 | exact P1 | exact P2 | exact P3 | exact P4 | exact P5 | exact P6 | exact P7 | exact P8 | exact P9 | exact P10 | exact P11 | exact P12 | exact P13 | exact P14 | exact P15 | exact P16 | exact P17 | exact P18 | exact P19 | exact P20 | exact P21 | exact P22 | exact P23)) | (apply Part.flat; simp only [List.cons_append, List.nil_append]) | (apply Part.cons; (first | exact P0 | exact P1 | exact P2 | exact P3 | exact P4 | exact P5 | exact P6 | exact P7 | exact P8 | exact P9 | exact P10 | exact P11 | exact P12 | exact P13 | exact P14 | exact P15 | exact P16 | exact P17 | exact P18 | exact P19 | exact P20 | exact P21 | exact P22 | exact P23)) | (apply Part.nilc)))
    · refine SP_seq ?_
      refine SP_seq ?_
      refine SP_region ?_
      refine SPL_y (y_move rfl) rfl ?_
      refine SPL_ifn (y_geq rfl rfl) rfl ?_ ?_
      · intro h4_1
        first | rw [if_neg h4_1] at hP | rw [if_pos (Decidable.not_not.1 h4_1)] at hP | skip
        exact absurd (by omega) h4_1
      intro h4_1
      first | rw [if_pos h4_1] at hP | rw [if_neg h4_1] at hP | skip
      refine SPL_nil ?_
      refine thenP_n ?_
      refine SP_cond_t rfl ?_
      refine SP_skip ?_
      refine thenP_n ?_
      refine SP_seq ?_
      refine SP_block ?_
      refine SP_region ?_
      refine SPL_y (y_move rfl) rfl ?_
      refine SPL_y (y_move rfl) rfl ?_
      obtain ⟨v4, m4, l1, hq4, hpn1, rfl⟩ := popN_go hpl
      refine SPL_one rfl (SP1_call (cm_pop x eb hb hq4 _ hM5) Tryz.call99 rfl rfl (by repeat (first | exact Part.nil _ | (apply Part.cons; with_reducible (first | exact P0 | exact P1 | exact P2 | exact P3 | exact P4 | exact P5 | exact P6 | exact P7 | exact P8 | exact P9 | exact P10 | exact P11 | exact P12 | exact P13 | exact P14 | exact P15 | exact P16 | exact P17 | exact P18 | exact P19 | exact P20 | exact P21 | exact P22 | exact P23)) | (apply Part.flat; simp only [List.cons_append, List.nil_append]) | (apply Part.cons; (first | exact P0 | exact P1 | exact P2 | exact P3 | exact P4 | exact P5 | exact P6 | exact P7 | exact P8 | exact P9 | exact P10 | exact P11 | exact P12 | exact P13 | exact P14 | exact P15 | exact P16 | exact P17 | exact P18 | exact P19 | exact P20 | exact P21 | exact P22 | exact P23)) | (apply Part.nilc))) ?_)
      rintro v post H' ⟨rfl, sg4, hM4, rfl⟩ hH
      try simp only [List.cons_append, List.nil_append] at hH
      subst hH
      refine SPL_y (y_ia_arr Tryz.underlying277 Tryz.sizeOf42 rfl rfl (by decide)) rfl ?_
      refine SPL_one rfl (SP1_storesAt Tryz.sizeOf42 rfl rfl rfl rfl rfl (by first | exact U0 | exact U1 | exact U2 | exact U3 | exact U4 | exact U5 | exact U6 | exact U7 | exact U8 | exact U9 | exact U10 | exact U11 | exact U12 | exact U13 | exact U14 | exact U15 | exact U16 | exact U17 | exact U18 | exact U19 | exact U20 | exact U21 | exact U22 | exact U23) (by rfl) ?_)
      refine SPL_nil ?_
      refine inBlockP_n ?_
      refine thenP_n ?_
      refine SP_region ?_
      refine SPL_y (y_move rfl) rfl ?_
      refine SPL_y (y_sub rfl rfl (by omega)) rfl ?_
      refine SPL_y (y_assign rfl) rfl ?_
      refine SPL_nil ?_
      refine thenP_n ?_
      exact Again.intro ((2, (2 : Int) - 1, z0, z1, v4, m4, sg4)) (⟨hM4, by first | rfl | simp, by dsimp only; omega, l1, hpn1, by rw [hagl]; exact tk3 (by omega), hz0, hz1, fun q => absurd q (by omega)⟩) (by dsimp only; omega) (by repeat (first | exact Sub.nil _ | refine Sub.cons rfl ?_)) (by repeat (first | exact Part.nil _ | (apply Part.cons; with_reducible (first | exact P0 | exact P1 | exact P2 | exact P3 | exact P4 | exact P5 | exact P6 | exact P7 | exact P8 | exact P9 | exact P10 | exact P11 | exact P12 | exact P13 | exact P14 | exact P15 | exact P16 | exact P17 | exact P18 | exact P19 | exact P20 | exact P21 | exact P22 | exact P23)) | (apply Part.flat; simp only [List.cons_append, List.nil_append]) | (apply Part.cons; (first | exact P0 | exact P1 | exact P2 | exact P3 | exact P4 | exact P5 | exact P6 | exact P7 | exact P8 | exact P9 | exact P10 | exact P11 | exact P12 | exact P13 | exact P14 | exact P15 | exact P16 | exact P17 | exact P18 | exact P19 | exact P20 | exact P21 | exact P22 | exact P23)) | (apply Part.nilc)))

end Go.Sl
