/- Walks: package vm, capture (made by program out of short notes) -/
import Derived.Test.Qxb6500573aGreatDoorWVmD
namespace Go.Sl
open Go Go.Wl Go.Proofs
set_option maxRecDepth 100000
set_option linter.unusedVariables false
set_option linter.unusedSimpArgs false
theorem capI_le {cells : List Ce} {o : List Int} {at_ : Int} : ∀ {n i : Nat}, capI cells o at_ n = some i → i ≤ n
  | 0, i, h => by unfold capI at h; injection h with h; omega
  | n + 1, i, h => by
    unfold capI at h
    obtain ⟨j, _, h⟩ := bnd1 h
    obtain ⟨e, _, h⟩ := bnd1 h
    split at h
    · have := capI_le h; omega
    · injection h with h; omega
/-- One element put in. -/
theorem shift_list (L : List Int) (i : Nat) (c : Int) (hi : i ≤ L.length) : (((L ++ [0]).take (i + 1) ++ ((L ++ [0]).drop i).take (L.length - i)).set i c) = L.take i ++ [c] ++ L.drop i := by
  apply List.ext_getElem?
  intro k
  rw [List.getElem?_set]
  by_cases e : i = k
  · subst e
    rw [if_pos rfl, if_pos (by simp; omega), List.append_assoc, List.getElem?_append_right (by simp; omega)]
    simp [Nat.min_eq_left hi]
  · rw [if_neg e]
    by_cases h : k < i
    · rw [List.getElem?_append_left (by simp; omega), List.getElem?_take_of_lt (by omega), List.getElem?_append_left (by omega), List.append_assoc, List.getElem?_append_left (by simp; omega), List.getElem?_take_of_lt h]
    · have hk : i < k := by omega
      rw [List.getElem?_append_right (by simp; omega), List.getElem?_append_right (by simp; omega)]
      simp only [List.length_take, List.length_append, List.length_cons, List.length_nil, Nat.min_eq_left hi, Nat.min_eq_left (show i + 1 ≤ L.length + 1 by omega)]
      by_cases h2 : k - (i + 1) < L.length - i
      · rw [List.getElem?_take_of_lt h2, List.getElem?_drop, List.getElem?_drop, List.getElem?_append_left (by omega)]
      · rw [List.getElem?_eq_none (by simp; omega), List.getElem?_eq_none (by simp; omega)]
def oD (c n : Nat) : Nat := if c = n + 1 then 0 else 0 + (n + 1) * 1
theorem copy_list (L : List Int) (sp : List Value) (n c : Nat) (hn : n < L.length) (hc : L.length ≤ c) : (L.take (n + 1) ++ (L.drop n).take (L.length - 1 - n)).map I ++ sp =
    (L.map I ++ sp).take (oD c n) ++ ((L.drop n).map I).take (min (L.length - n) (L.length - (n + 1)) * 1) ++ (L.map I ++ sp).drop (oD c n + min (L.length - n) (L.length - (n + 1)) * 1) := by
  have hm : min (L.length - n) (L.length - (n + 1)) * 1 = L.length - 1 - n := by omega
  rw [hm]
  by_cases h : L.length - 1 - n = 0
  · rw [h]
    have : L.take (n + 1) = L := List.take_of_length_le (by omega)
    simp [this]
  · have : oD c n = n + 1 := by unfold oD; rw [if_neg (by omega)]; omega
    rw [this, show n + 1 + (L.length - 1 - n) = L.length from by omega, List.take_append_of_le_length (by simp; omega), ← List.map_take, ← List.map_take, List.map_append, show (L.map I ++ sp).drop L.length = sp from by rw [List.drop_append_of_le_length (by simp)]; simp]
theorem I_one (l : List Int) : (l.map I).all Value.oneCell' = true := by
  induction l with
  | nil => rfl
  | cons x l ih => rw [List.map_cons, List.all_cons, ih]; rfl
theorem Cells.inn2 {s : Seg} {H : Hp} {b o : Nat} {vs : List Value} (h : Cells [s] b o vs) : Cells (s :: H) b o vs := by
  obtain ⟨c, T, fz, h1, h2⟩ := h
  refine ⟨c, T, fz, ?_, h2⟩
  have h3 : (b, Obj.cells c T fz) ∈ s := by simpa [Has] using h1
  exact List.mem_flatten.2 ⟨_, List.mem_cons_self, h3⟩
section
variable {P : Program} {n : Nat} {Q : Post} {D : Defs} {ρ : Env} {H : Hp} {ty : TypeId} {K : Kont} {d : Nat} {pos : String} {af : Array Edge} {g : Option (Nat × Bool)}
theorem SP1_storeI {t : TypeId} {x y : Operand} {b i : Nat} {T : TypeId} {v : Int} {l : List Int} {sp : List Value} {H' : Hp} (hz : ∀ w, (sizeOf t).run P w = .ok 1 w) (hx : ev ρ x = some (.pointer (some ⟨b, 0 + ((i : Nat) : Int).toNat * 1, none⟩))) (hy : ev ρ y = some (I v)) (h1 : (I v).oneCell' = true) (hi : i < l.length)
    (hu : Upd H b T (l.map I ++ sp) ((l.set i v).map I ++ sp) H') (kk : K D ρ H') : SP1 P n { dst := none, op := .store t x y, type := ty, pos := pos, after := af, guard := g } Q K D ρ H := by
  have e : 0 + ((i : Nat) : Int).toNat * 1 = i := by omega
  rw [e] at hx
  refine SP1_store (T := T) (l := l.map I ++ sp) hz hx hy h1 ?_ (ble_of (by simp; omega)) kk
  rw [List.set_append_left _ _ (by simpa using hi), ← List.map_set]
  exact hu
end
set_option maxHeartbeats 4000000 in
theorem vm_capture (b : VB) (ph : PH) (hh : List TH) {m m' : VM} {th : Nat} {at_ i : Int} (hP : captureM th at_ m = some (i, m')) (seg : Seg) (hM : isVM b ph hh m seg) : Spec Tryz.prog 304 [pt b.vb, I th, tp b th, I at_] [seg] (Ret (vOk b ph hh m' (I i))) := by
  unfold captureM getT at hP
  obtain ⟨t, ht, hP⟩ := bnd1 hP
  obtain ⟨g, hg⟩ : ∃ g, hh[th]? = some g := by obtain ⟨g, _, _, hg, _⟩ := hM.thr ht; exact ⟨g, hg⟩
  have hol : t.opn.length < 1000000 := Decidable.byContradiction fun q => by rw [if_neg q] at hP; cases hP
  rw [if_pos hol] at hP
  obtain ⟨i0, hcp, hP⟩ := bnd1 hP
  have hM0 := hM
  obtain ⟨la, ua, ea, xa, na, lc, uc, ec, xc, nc, r, se, ss, sf, sn, s0, s2, c0, c2, rfl, hpre, hce, hss, hsf, hsn, hput⟩ := hM.opnC ht hg
  refine Spec_openAt [blk b.vb 115 [pt b.nb, pt b.tb, .slice ph.pa m.pg.protos.length ph.pc, .slice ph.da m.pg.descs.length ph.dc, .slice ph.ka m.pg.consts.length ph.kc, .slice ph.ca m.pg.code.length ph.cc, .slice la m.vs.clos.length lc, .slice ua m.vs.upix.length uc, .slice ea m.vs.cells.length ec, .slice (some ⟨b.thb, 0, none⟩) m.vs.threads.length 5, I m.vs.fuel, .slice xa m.vs.out.length xc, I m.ended], r, se, blk b.thb 263 (c0 ++ [I t.st, I t.fn, .slice g.sa t.stack.length g.sc, .slice g.fa t.frames.length g.fc, .slice na t.opn.length nc] ++ c2), s0, ss, sf, sn, s2] (by first | exact P0 | exact P1 | exact P2 | exact P3 | exact P4 | exact P5 | exact P6 | exact P7 | exact P8 | exact P9 | exact P10 | exact P11 | exact P12 | exact P13 | exact P14 | exact P15 | exact P16 | exact P17 | exact P18 | exact P19 | exact P20 | exact P21 | exact P22 | exact P23) ?_
  simp only [List.cons_append, List.nil_append]
  refine Spec_enter Tryz.func304 rfl Tryz.ntmps304 rfl ?_
  show SP _ _ _ _ _ [(0, _), (1, _), (2, _), (3, _)] _
  refine SP_seq ?_
  refine SP_region ?_
  refine SPL_y (y_assign rfl) rfl ?_
  refine SPL_nil ?_
  refine thenP_n ?_
  refine SP_seq ?_
  refine SP_region ?_
  refine SPL_y (y_move rfl) rfl ?_
  refine SPL_y (y_nil rfl) rfl ?_
  refine SPL_y (y_fa fld_263_4 rfl) rfl ?_
  refine SPL_y (y_load Tryz.isAgg112 rfl (by repeat (first | exact Cell.amid hpre rfl | exact Cell.head rfl | apply Cell.tail))) rfl ?_
  refine SPL_y (y_len_l Tryz.underlying112 rfl) rfl ?_
  refine SPL_y (y_assign rfl) rfl ?_
  refine SPL_nil ?_
  refine thenP_n ?_
  refine SP_seq ?_
  refine SP_block ?_
  refine SP_loop (G := Nat) (fun g => g) (fun g => [(0, pt b.vb), (1, I th), (2, tp b th), (3, I at_), (9, I g)]) (fun g1 => [blk b.vb 115 [pt b.nb, pt b.tb, .slice ph.pa m.pg.protos.length ph.pc, .slice ph.da m.pg.descs.length ph.dc, .slice ph.ka m.pg.consts.length ph.kc, .slice ph.ca m.pg.code.length ph.cc, .slice la m.vs.clos.length lc, .slice ua m.vs.upix.length uc, .slice ea m.vs.cells.length ec, .slice (some ⟨b.thb, 0, none⟩) m.vs.threads.length 5, I m.vs.fuel, .slice xa m.vs.out.length xc, I m.ended], r, se, blk b.thb 263 (c0 ++ [I t.st, I t.fn, .slice g.sa t.stack.length g.sc, .slice g.fa t.frames.length g.fc, .slice na t.opn.length nc] ++ c2), s0, ss, sf, sn, s2]) (fun g => g ≤ t.opn.length ∧ capI m.vs.cells t.opn at_ g = some i0) (t.opn.length) (⟨Nat.le_refl _, hcp⟩) (by repeat (first | exact Sub.nil _ | refine Sub.cons rfl ?_)) (by repeat (first | exact Part.nil _ | (apply Part.cons; with_reducible (first | exact P0 | exact P1 | exact P2 | exact P3 | exact P4 | exact P5 | exact P6 | exact P7 | exact P8 | exact P9 | exact P10 | exact P11 | exact P12 | exact P13 | exact P14 | exact P15 | exact P16 | exact P17 | exact P18 | exact P19 | exact P20 | exact P21 | exact P22 | exact P23)) | (apply Part.flat; simp only [List.cons_append, List.nil_append]) | (apply Part.cons; (first | exact P0 | exact P1 | exact P2 | exact P3 | exact P4 | exact P5 | exact P6 | exact P7 | exact P8 | exact P9 | exact P10 | exact P11 | exact P12 | exact P13 | exact P14 | exact P15 | exact P16 | exact P17 | exact P18 | exact P19 | exact P20 | exact P21 | exact P22 | exact P23)) | (apply Part.nilc))) ?_
  rintro n ⟨hn, hcp⟩
  refine SP_seq ?_
  refine SP_seq ?_
  refine SP_draw 999 [(0, 0), (1, 0), (2, 0), (3, 0), (4, 0), (5, 0), (7, 0), (8, 0), (9, 0), (11, 0), (12, 0), (18, 0), (6, 1), (10, 1), (13, 0), (14, 1), (15, 0), (16, 0), (17, 1), (19, 0), (20, 0)] mixed (by kernel_rfl) (fun _ _ _ _ _ h => h) (Part.refl _) ?_
  refine SPO_p rfl (y_move rfl) rfl ?_
  refine SPO_ifn rfl (y_gtr rfl rfl) rfl ?_ ?_
  · intro h2_1
    refine SPO_p rfl (y_move rfl) rfl ?_
    refine SPO_gn (.inl rfl) rfl rfl rfl rfl rfl ?_
    refine SPO_gn (.inl rfl) rfl rfl rfl rfl rfl ?_
    refine SPO_gn (.inl rfl) rfl rfl rfl rfl rfl ?_
    refine SPO_gn (.inl rfl) rfl rfl rfl rfl rfl ?_
    refine SPO_gn (.inl rfl) rfl rfl rfl rfl rfl ?_
    refine SPO_gn (.inl rfl) rfl rfl rfl rfl rfl ?_
    refine SPO_gn (.inl rfl) rfl rfl rfl rfl rfl ?_
    refine SPO_gn (.inl rfl) rfl rfl rfl rfl rfl ?_
    refine SPO_gn (.inl rfl) rfl rfl rfl rfl rfl ?_
    refine SPO_gn (.inr rfl) rfl rfl rfl rfl rfl ?_
    refine SPO_gn (.inr rfl) rfl rfl rfl rfl rfl ?_
    refine SPO_gn (.inl rfl) rfl rfl rfl rfl rfl ?_
    refine SPO_gn (.inr rfl) rfl rfl rfl rfl rfl ?_
    refine SPO_gn (.inl rfl) rfl rfl rfl rfl rfl ?_
    refine SPO_gn (.inl rfl) rfl rfl rfl rfl rfl ?_
    refine SPO_gn (.inr rfl) rfl rfl rfl rfl rfl ?_
    refine SPO_gn (.inl rfl) rfl rfl rfl rfl rfl ?_
    refine SPO_p rfl (y_pick_f rfl rfl) rfl ?_
    refine SPO_nil ?_
    refine thenP_n ?_
    refine SP_cond_f rfl ?_
    refine SP_exit ?_
    refine thenP_exit ?_
    refine thenP_exit ?_
    refine inBlockP_hit ?_
    refine thenP_n ?_
    refine SP_seq ?_
    refine SP_seq ?_
    have hn0 : n = 0 := by omega
    rw [hn0] at hcp
    unfold capI at hcp
    injection hcp with hcp
    rw [← hcp, ← hn0] at hP
    have hP : capNew th at_ n t m = some (i, m') := by rw [hn0] at hP ⊢; exact hP
    refine SP_draw 999 [(0, 0), (1, 0), (2, 0), (3, 0), (4, 0), (5, 0), (7, 0), (8, 0), (9, 0), (11, 0), (12, 0), (18, 0), (6, 1), (10, 1), (13, 0), (14, 1), (15, 0), (16, 0), (17, 1), (19, 0), (20, 0)] mixed (by kernel_rfl) (fun _ _ _ _ _ h => h) (Part.refl _) ?_
    refine SPO_p rfl (y_move rfl) rfl ?_
    refine SPO_if rfl (y_gtr rfl rfl) rfl ?_ ?_
    · intro h4_1
      omega
    intro h4_1
    refine SPO_p rfl (y_move rfl) rfl ?_
    refine SPO_gn (.inl rfl) rfl rfl rfl rfl rfl ?_
    refine SPO_gn (.inl rfl) rfl rfl rfl rfl rfl ?_
    refine SPO_gn (.inl rfl) rfl rfl rfl rfl rfl ?_
    refine SPO_gn (.inl rfl) rfl rfl rfl rfl rfl ?_
    refine SPO_gn (.inl rfl) rfl rfl rfl rfl rfl ?_
    refine SPO_gn (.inl rfl) rfl rfl rfl rfl rfl ?_
    refine SPO_gn (.inl rfl) rfl rfl rfl rfl rfl ?_
    refine SPO_gn (.inl rfl) rfl rfl rfl rfl rfl ?_
    refine SPO_gn (.inl rfl) rfl rfl rfl rfl rfl ?_
    refine SPO_gn (.inr rfl) rfl rfl rfl rfl rfl ?_
    refine SPO_gn (.inr rfl) rfl rfl rfl rfl rfl ?_
    refine SPO_gn (.inl rfl) rfl rfl rfl rfl rfl ?_
    refine SPO_gn (.inr rfl) rfl rfl rfl rfl rfl ?_
    refine SPO_gn (.inl rfl) rfl rfl rfl rfl rfl ?_
    refine SPO_gn (.inl rfl) rfl rfl rfl rfl rfl ?_
    refine SPO_gn (.inr rfl) rfl rfl rfl rfl rfl ?_
    refine SPO_gn (.inl rfl) rfl rfl rfl rfl rfl ?_
    refine SPO_p rfl (y_pick_f rfl rfl) rfl ?_
    refine SPO_nil ?_
    refine thenP_n ?_
    refine SP_cond_f rfl ?_
    refine SP_skip ?_
    refine thenP_n ?_
    refine SP_seq ?_
    unfold capNew at hP
    have hcl9 : m.vs.cells.length < 1000000 := Decidable.byContradiction fun q => by rw [if_neg q] at hP; cases hP
    refine SP_region ?_
    refine SPL_y (y_move rfl) rfl ?_
    refine SPL_y (y_nil rfl) rfl ?_
    refine SPL_y (y_fa fld_115_8 rfl) rfl ?_
    refine SPL_y (y_load Tryz.isAgg113 rfl (by repeat (first | exact Cell.amid hpre rfl | exact Cell.head rfl | apply Cell.tail))) rfl ?_
    refine SPL_y (y_len_l Tryz.underlying113 rfl) rfl ?_
    refine SPL_y (y_assign rfl) rfl ?_
    refine SPL_nil ?_
    refine thenP_n ?_
    refine SP_seq ?_
    refine SP_region ?_
    refine SPL_y (y_move rfl) rfl ?_
    refine SPL_y (y_move rfl) rfl ?_
    refine SPL_y (y_nil rfl) rfl ?_
    refine SPL_y (y_fa fld_115_8 rfl) rfl ?_
    refine SPL_y (y_load Tryz.isAgg113 rfl (by repeat (first | exact Cell.amid hpre rfl | exact Cell.head rfl | apply Cell.tail))) rfl ?_
    refine SPL_y (y_move rfl) rfl ?_
    refine SPL_y (y_move rfl) rfl ?_
    refine SPL_y (y_buildN (l := ceV ⟨th, at_, V.nil⟩) BN287 rfl rfl) rfl ?_
    refine SPL_one rfl (SP1_slice1 el_113 rfl rfl rfl rfl rfl ?_)
    intro b81
    refine SPL_one rfl (SP1_append el_113 (.inl Tryz.underlying113) rfl rfl hce (by first | exact P0 | exact P1 | exact P2 | exact P3 | exact P4 | exact P5 | exact P6 | exact P7 | exact P8 | exact P9 | exact P10 | exact P11 | exact P12 | exact P13 | exact P14 | exact P15 | exact P16 | exact P17 | exact P18 | exact P19 | exact P20 | exact P21 | exact P22 | exact P23) (Src.of (by repeat (first | exact Cells.all _ | exact Cells.amid hpre rfl (by decide) | exact Cells.head rfl | apply Cells.tail)) (by rfl)) (by rfl) (by omega) rfl ?_)
    intro ea1 ec1 se1 hA1
    refine SPL_y (y_nil rfl) rfl ?_
    refine SPL_y (y_fa fld_115_8 rfl) rfl ?_
    refine SPL_one rfl (SP1_store Tryz.sizeOf113 rfl rfl rfl (by first | exact U0 | exact U1 | exact U2 | exact U3 | exact U4 | exact U5 | exact U6 | exact U7 | exact U8 | exact U9 | exact U10 | exact U11 | exact U12 | exact U13 | exact U14 | exact U15 | exact U16 | exact U17 | exact U18 | exact U19 | exact U20 | exact U21 | exact U22 | exact U23) (by rfl) ?_)
    refine SPL_nil ?_
    refine thenP_n ?_
    refine SP_seq ?_
    refine SP_region ?_
    refine SPL_y (y_move rfl) rfl ?_
    refine SPL_y (y_move rfl) rfl ?_
    refine SPL_y (y_nil rfl) rfl ?_
    refine SPL_y (y_fa fld_263_4 rfl) rfl ?_
    refine SPL_y (y_load Tryz.isAgg112 rfl (by repeat (first | exact Cell.amid hpre rfl | exact Cell.head rfl | apply Cell.tail))) rfl ?_
    refine SPL_one rfl (SP1_slice1 el_112 rfl rfl rfl rfl rfl ?_)
    intro b90
    refine SPL_one rfl (SP1_append el_112 (.inl Tryz.underlying112) rfl rfl hsn (by first | exact P0 | exact P1 | exact P2 | exact P3 | exact P4 | exact P5 | exact P6 | exact P7 | exact P8 | exact P9 | exact P10 | exact P11 | exact P12 | exact P13 | exact P14 | exact P15 | exact P16 | exact P17 | exact P18 | exact P19 | exact P20 | exact P21 | exact P22 | exact P23) (Src.of (by repeat (first | exact Cells.all _ | exact Cells.amid hpre rfl (by decide) | exact Cells.head rfl | apply Cells.tail)) (by rfl)) (by rfl) (by omega) rfl ?_)
    intro na1 nc1 sn1 hA2
    refine SPL_y (y_nil rfl) rfl ?_
    refine SPL_y (y_fa fld_263_4 rfl) rfl ?_
    refine SPL_one rfl (SP1_storeM (j := 4) Tryz.sizeOf112 rfl rfl rfl hpre (by first | exact U0 | exact U1 | exact U2 | exact U3 | exact U4 | exact U5 | exact U6 | exact U7 | exact U8 | exact U9 | exact U10 | exact U11 | exact U12 | exact U13 | exact U14 | exact U15 | exact U16 | exact U17 | exact U18 | exact U19 | exact U20 | exact U21 | exact U22 | exact U23) (by rfl) ?_)
    simp only [List.set_cons_zero, List.set_cons_succ, List.take_succ_cons, List.take_zero, List.drop_succ_cons, List.drop_zero, List.cons_append, List.nil_append]
    refine SPL_nil ?_
    refine thenP_n ?_
    refine SP_seq ?_
    obtain ⟨L, hLd⟩ : ∃ L : List Int, L = t.opn ++ [0] := ⟨_, rfl⟩
    rw [show t.opn.map I ++ [I 0] = L.map I from by rw [hLd]; simp] at hA2
    obtain ⟨nb, nsp1, rfl, hnc1, hnsp1, rfl⟩ := hA2.row (by omega)
    have hL1 : t.opn.length + 1 = L.length := by rw [hLd]; simp
    have hnl : n ≤ t.opn.length := by omega
    have hsrc : Cells [blk nb 3 (L.map I ++ nsp1)] nb (0 + n * 1) ((L.drop n).map I) := by
      refine Cells.head ?_
      rw [Nat.zero_add, Nat.mul_one, List.drop_append_of_le_length (by rw [List.length_map]; omega), ← List.map_drop, List.take_left' rfl]
    refine SP_draw 13 [(0, 0), (1, 0), (2, 0), (4, 0), (5, 0), (7, 0), (8, 0), (9, 0), (11, 0), (3, 1), (6, 0), (10, 1), (12, 0), (13, 3)] mixed (by kernel_rfl) (fun _ _ _ _ _ h => h) (Part.refl _) ?_
    refine SPO_p rfl (y_move rfl) rfl ?_
    refine SPO_p rfl (y_nil rfl) rfl ?_
    refine SPO_p rfl (y_fa fld_263_4 rfl) rfl ?_
    refine SPO_p rfl (y_move rfl) rfl ?_
    refine SPO_p rfl (y_add rfl rfl (by omega)) rfl ?_
    refine SPO_p rfl (y_move rfl) rfl ?_
    refine SPO_p rfl (y_nil rfl) rfl ?_
    refine SPO_p rfl (y_fa fld_263_4 rfl) rfl ?_
    refine SPO_p rfl (y_move rfl) rfl ?_
    refine SPO_h rfl (y_load Tryz.isAgg112 rfl (by repeat (first | exact Cell.amid hpre rfl | exact Cell.head rfl | apply Cell.tail))) rfl ?_
    refine SPO_p rfl (y_fromA (v := .slice (some ⟨nb, oD nc1 (n), none⟩) (L.length - (n + 1)) (nc1 - (n + 1))) hA2 Tryz.underlying112 Tryz.sizeOf3 rfl rfl (by omega) (by unfold oD; rw [show ((((n : Nat) : Int) + 1)).toNat = n + 1 from by omega, hL1]; split <;> rfl)) rfl ?_
    refine SPO_h rfl (y_load Tryz.isAgg112 rfl (by repeat (first | exact Cell.amid hpre rfl | exact Cell.head rfl | apply Cell.tail))) rfl ?_
    refine SPO_p rfl (y_fromA (v := .slice (some ⟨nb, 0 + n * 1, none⟩) (L.length - n) (nc1 - n)) hA2 Tryz.underlying112 Tryz.sizeOf3 rfl rfl (by omega) (by rw [show (((n : Nat) : Int)).toNat = n from by omega, if_neg (by omega), hL1]; rfl)) rfl ?_
    refine SPO_z (k := 0) rfl rfl (SP1_copy (vs := (L.drop n).map I) (l' := (L.take (n + 1) ++ (L.drop n).take (t.opn.length - n)).map I ++ nsp1) el_112 rfl rfl (Src.slice (by rw [List.length_map, List.length_drop]; omega) (by repeat (first | exact Cells.inn2 hsrc | apply Cells.tail))) (I_one _) (by first | exact U0 | exact U1 | exact U2 | exact U3 | exact U4 | exact U5 | exact U6 | exact U7 | exact U8 | exact U9 | exact U10 | exact U11 | exact U12 | exact U13 | exact U14 | exact U15 | exact U16 | exact U17 | exact U18 | exact U19 | exact U20 | exact U21 | exact U22 | exact U23) (by rw [List.length_append, List.length_map]; unfold oD; split <;> omega) (by have hcc := copy_list L nsp1 (n) nc1 (by omega) (by omega); rw [show L.length - 1 - (n) = t.opn.length - (n) from by omega] at hcc; exact hcc) rfl ?_)
    refine SPO_nil ?_
    refine thenP_n ?_
    refine SP_seq ?_
    refine SP_region ?_
    refine SPL_y (y_move rfl) rfl ?_
    refine SPL_y (y_nil rfl) rfl ?_
    refine SPL_y (y_fa fld_263_4 rfl) rfl ?_
    refine SPL_y (y_load Tryz.isAgg112 rfl (by repeat (first | exact Cell.amid hpre rfl | exact Cell.head rfl | apply Cell.tail))) rfl ?_
    refine SPL_y (y_move rfl) rfl ?_
    refine SPL_y (y_move rfl) rfl ?_
    refine SPL_y (y_ia Tryz.underlying112 Tryz.sizeOf3 rfl rfl (by omega)) rfl ?_
    refine SPL_one rfl (SP1_storeI (i := n) (l := (L.take (n + 1) ++ (L.drop n).take (t.opn.length - n))) (v := (m.vs.cells.length : Int)) Tryz.sizeOf3 rfl rfl rfl (by rw [List.length_append, List.length_take, List.length_take, List.length_drop]; omega) (by first | exact U0 | exact U1 | exact U2 | exact U3 | exact U4 | exact U5 | exact U6 | exact U7 | exact U8 | exact U9 | exact U10 | exact U11 | exact U12 | exact U13 | exact U14 | exact U15 | exact U16 | exact U17 | exact U18 | exact U19 | exact U20 | exact U21 | exact U22 | exact U23) ?_)
    refine SPL_nil ?_
    refine thenP_n ?_
    refine SP_seq ?_
    refine SP_region ?_
    refine SPL_y (y_move rfl) rfl ?_
    refine SPL_y (y_assign rfl) rfl ?_
    refine SPL_nil ?_
    refine thenP_n ?_
    refine SP_ret ?_
    refine bodyP_ret (H' := [List.flatten [blk b.vb 115 [pt b.nb, pt b.tb, .slice ph.pa m.pg.protos.length ph.pc, .slice ph.da m.pg.descs.length ph.dc, .slice ph.ka m.pg.consts.length ph.kc, .slice ph.ca m.pg.code.length ph.cc, .slice la m.vs.clos.length lc, .slice ua m.vs.upix.length uc, .slice ea1 (m.vs.cells.length + 1) ec1, .slice (some ⟨b.thb, 0, none⟩) m.vs.threads.length 5, I m.vs.fuel, .slice xa m.vs.out.length xc, I m.ended], r, se1, blk b.thb 263 (c0 ++ [I t.st, I t.fn, .slice g.sa t.stack.length g.sc, .slice g.fa t.frames.length g.fc, .slice (some ⟨nb, 0, none⟩) (t.opn.length + 1) nc1] ++ c2), s0, ss, sf, (blk nb 3 (((L.take (n + 1) ++ (L.drop n).take (t.opn.length - n)).set (n) (m.vs.cells.length : Int)).map I ++ nsp1)), s2]]) (Res1 rfl rfl) (by repeat (first | exact Part.nil _ | (apply Part.cons; with_reducible (first | exact P0 | exact P1 | exact P2 | exact P3 | exact P4 | exact P5 | exact P6 | exact P7 | exact P8 | exact P9 | exact P10 | exact P11 | exact P12 | exact P13 | exact P14 | exact P15 | exact P16 | exact P17 | exact P18 | exact P19 | exact P20 | exact P21 | exact P22 | exact P23)) | (apply Part.flat; simp only [List.cons_append, List.nil_append]) | (apply Part.cons; (first | exact P0 | exact P1 | exact P2 | exact P3 | exact P4 | exact P5 | exact P6 | exact P7 | exact P8 | exact P9 | exact P10 | exact P11 | exact P12 | exact P13 | exact P14 | exact P15 | exact P16 | exact P17 | exact P18 | exact P19 | exact P20 | exact P21 | exact P22 | exact P23)) | (apply Part.nilc))) ?_
    have hsh := shift_list t.opn (n) (m.vs.cells.length : Int) (by omega)
    rw [← hLd] at hsh
    rw [hsh]
    have hln : t.opn.length + 1 = (t.opn.take n ++ [(m.vs.cells.length : Int)] ++ t.opn.drop n).length := by simp; omega
    have hA3 : Arr 3 1 (some ⟨nb, 0, none⟩) (t.opn.take n ++ [(m.vs.cells.length : Int)] ++ t.opn.drop n).length nc1 ((t.opn.take n ++ [(m.vs.cells.length : Int)] ++ t.opn.drop n).map I) (blk nb 3 ((t.opn.take n ++ [(m.vs.cells.length : Int)] ++ t.opn.drop n).map I ++ nsp1)) := by
      rw [← hln]
      exact Arr.mk (by rw [List.length_map, ← hln]; omega) hnc1 hnsp1
    have hA4 : Arr 287 5 ea1 (m.vs.cells ++ [(⟨th, at_, V.nil⟩ : Ce)]).length ec1 ((m.vs.cells ++ [(⟨th, at_, V.nil⟩ : Ce)]).flatMap ceV) se1 := by
      rw [List.length_append, List.flatMap_append]; exact hA1
    have hM2 := hput (m.vs.cells ++ [(⟨th, at_, V.nil⟩ : Ce)]) { t with opn := (t.opn.take n ++ [(m.vs.cells.length : Int)] ++ t.opn.drop n) } g ea1 ec1 (some ⟨nb, 0, none⟩) nc1 se1 ss sf _ hA4 hss hsf hA3
    rw [set_same hg] at hM2
    dsimp only at hM2
    rw [← hln, List.length_append] at hM2
    rw [if_pos hcl9] at hP
    injection hP with hP
    injection hP with h1 h2
    subst h1
    subst h2
    exact ⟨rfl, _, hM2, rfl⟩
  intro h2_1
  refine SPO_p rfl (y_move rfl) rfl ?_
  obtain ⟨k, rfl⟩ : ∃ k, n = k + 1 := ⟨n - 1, by omega⟩
  unfold capI at hcp
  obtain ⟨j, hj, hcp⟩ := bnd1 hcp
  obtain ⟨e, he, hcp⟩ := bnd1 hcp
  obtain ⟨hjb, hjc, hjn, hjl, hje⟩ := getI_some he
  have hkl : k < t.opn.length := (List.getElem?_eq_some_iff.1 hj).1
  have hkj : t.opn.getD k 0 = j := by rw [List.getD_eq_getElem?_getD, hj]; rfl
  obtain ⟨nq, nsp, rfl, hnc, hnsp, rfl⟩ := hsn.row (by omega)
  obtain ⟨eb, esp, rfl, hec, hesp, rfl⟩ := hce.row (by omega)
  refine SPO_py rfl rfl rfl (y_move rfl) rfl ?_
  refine SPO_py rfl rfl rfl (y_nil rfl) rfl ?_
  refine SPO_py rfl rfl rfl (y_fa fld_115_8 rfl) rfl ?_
  refine SPO_py rfl rfl rfl (y_move rfl) rfl ?_
  refine SPO_py rfl rfl rfl (y_nil rfl) rfl ?_
  refine SPO_py rfl rfl rfl (y_fa fld_263_4 rfl) rfl ?_
  refine SPO_py rfl rfl rfl (y_move rfl) rfl ?_
  refine SPO_py rfl rfl rfl (y_subE rfl rfl (c := (k : Int)) (by omega) (by omega)) rfl ?_
  refine SPO_py rfl rfl rfl (y_move rfl) rfl ?_
  refine SPO_hy rfl rfl rfl (y_load Tryz.isAgg113 rfl (by repeat (first | exact Cell.amid hpre rfl | exact Cell.head rfl | apply Cell.tail))) rfl ?_
  refine SPO_hy rfl rfl rfl (y_load Tryz.isAgg112 rfl (by repeat (first | exact Cell.amid hpre rfl | exact Cell.head rfl | apply Cell.tail))) rfl ?_
  refine SPO_py rfl rfl rfl (y_ia Tryz.underlying112 Tryz.sizeOf3 rfl rfl (by omega)) rfl ?_
  refine SPO_hy rfl rfl rfl (y_load Tryz.isAgg3 rfl (by repeat (first | exact (map_cell (d := 0) (by omega) (by omega)) | apply Cell.tail))) rfl ?_
  rw [show ((k : Nat) : Int).toNat = k from Int.toNat_natCast k, hkj]
  refine SPO_py rfl rfl rfl (y_ia Tryz.underlying113 Tryz.sizeOf287 rfl rfl (by omega)) rfl ?_
  refine SPO_py rfl rfl rfl (y_fa fld_287_1 rfl) rfl ?_
  refine SPO_hy rfl rfl rfl (y_load Tryz.isAgg3 rfl (by repeat (first | exact (flat_cellE ceV_len hjn hjl hje rfl) | apply Cell.tail))) rfl ?_
  refine SPO_pyif rfl rfl rfl (y_gtr rfl rfl) rfl ?_ ?_
  · intro h2_19
    refine SPO_p rfl (y_pick_t rfl rfl) rfl ?_
    refine SPO_nil ?_
    refine thenP_n ?_
    refine SP_cond_t rfl ?_
    refine SP_skip ?_
    refine thenP_n ?_
    refine SP_block ?_
    rw [if_pos h2_19] at hcp
    refine SP_region ?_
    refine SPL_y (y_move rfl) rfl ?_
    refine SPL_y (y_subE rfl rfl (c := (k : Int)) (by omega) (by omega)) rfl ?_
    refine SPL_y (y_assign rfl) rfl ?_
    refine SPL_nil ?_
    refine inBlockP_n ?_
    refine thenP_n ?_
    exact Again.intro (k) (⟨by omega, hcp⟩) (by omega) (by repeat (first | exact Sub.nil _ | refine Sub.cons rfl ?_)) (by repeat (first | exact Part.nil _ | (apply Part.cons; with_reducible (first | exact P0 | exact P1 | exact P2 | exact P3 | exact P4 | exact P5 | exact P6 | exact P7 | exact P8 | exact P9 | exact P10 | exact P11 | exact P12 | exact P13 | exact P14 | exact P15 | exact P16 | exact P17 | exact P18 | exact P19 | exact P20 | exact P21 | exact P22 | exact P23)) | (apply Part.flat; simp only [List.cons_append, List.nil_append]) | (apply Part.cons; (first | exact P0 | exact P1 | exact P2 | exact P3 | exact P4 | exact P5 | exact P6 | exact P7 | exact P8 | exact P9 | exact P10 | exact P11 | exact P12 | exact P13 | exact P14 | exact P15 | exact P16 | exact P17 | exact P18 | exact P19 | exact P20 | exact P21 | exact P22 | exact P23)) | (apply Part.nilc)))
  intro h2_19
  refine SPO_p rfl (y_pick_t rfl rfl) rfl ?_
  refine SPO_nil ?_
  refine thenP_n ?_
  refine SP_cond_f rfl ?_
  refine SP_exit ?_
  refine thenP_exit ?_
  refine thenP_exit ?_
  refine inBlockP_hit ?_
  refine thenP_n ?_
  refine SP_seq ?_
  refine SP_seq ?_
  rw [if_neg h2_19] at hcp
  injection hcp with hcp
  subst hcp
  dsimp only at hP
  rw [hj] at hP
  dsimp only [bind1] at hP
  rw [he] at hP
  dsimp only [bind1] at hP
  refine SP_draw 999 [(0, 0), (1, 0), (2, 0), (3, 0), (4, 0), (5, 0), (7, 0), (8, 0), (9, 0), (11, 0), (12, 0), (18, 0), (6, 1), (10, 1), (13, 0), (14, 1), (15, 0), (16, 0), (17, 1), (19, 0), (20, 0)] mixed (by kernel_rfl) (fun _ _ _ _ _ h => h) (Part.refl _) ?_
  refine SPO_p rfl (y_move rfl) rfl ?_
  refine SPO_ifn rfl (y_gtr rfl rfl) rfl ?_ ?_
  · intro h4_1
    omega
  intro h4_1
  refine SPO_p rfl (y_move rfl) rfl ?_
  refine SPO_py rfl rfl rfl (y_move rfl) rfl ?_
  refine SPO_py rfl rfl rfl (y_nil rfl) rfl ?_
  refine SPO_py rfl rfl rfl (y_fa fld_115_8 rfl) rfl ?_
  refine SPO_py rfl rfl rfl (y_move rfl) rfl ?_
  refine SPO_py rfl rfl rfl (y_nil rfl) rfl ?_
  refine SPO_py rfl rfl rfl (y_fa fld_263_4 rfl) rfl ?_
  refine SPO_py rfl rfl rfl (y_move rfl) rfl ?_
  refine SPO_py rfl rfl rfl (y_subE rfl rfl (c := (k : Int)) (by omega) (by omega)) rfl ?_
  refine SPO_py rfl rfl rfl (y_move rfl) rfl ?_
  refine SPO_hy rfl rfl rfl (y_load Tryz.isAgg113 rfl (by repeat (first | exact Cell.amid hpre rfl | exact Cell.head rfl | apply Cell.tail))) rfl ?_
  refine SPO_hy rfl rfl rfl (y_load Tryz.isAgg112 rfl (by repeat (first | exact Cell.amid hpre rfl | exact Cell.head rfl | apply Cell.tail))) rfl ?_
  refine SPO_py rfl rfl rfl (y_ia Tryz.underlying112 Tryz.sizeOf3 rfl rfl (by omega)) rfl ?_
  refine SPO_hy rfl rfl rfl (y_load Tryz.isAgg3 rfl (by repeat (first | exact (map_cell (d := 0) (by omega) (by omega)) | apply Cell.tail))) rfl ?_
  rw [show ((k : Nat) : Int).toNat = k from Int.toNat_natCast k, hkj]
  refine SPO_py rfl rfl rfl (y_ia Tryz.underlying113 Tryz.sizeOf287 rfl rfl (by omega)) rfl ?_
  refine SPO_py rfl rfl rfl (y_fa fld_287_1 rfl) rfl ?_
  refine SPO_hy rfl rfl rfl (y_load Tryz.isAgg3 rfl (by repeat (first | exact (flat_cellE ceV_len hjn hjl hje rfl) | apply Cell.tail))) rfl ?_
  refine SPO_pyif rfl rfl rfl (y_eql rfl rfl) rfl ?_ ?_
  · intro h4_19
    refine SPO_p rfl (y_pick_t rfl rfl) rfl ?_
    refine SPO_nil ?_
    refine thenP_n ?_
    refine SP_cond_t rfl ?_
    refine SP_seq ?_
    rw [if_pos h4_19] at hP
    injection hP with hP
    injection hP with h1 h2
    subst h1
    subst h2
    refine SP_region ?_
    refine SPL_y (y_move rfl) rfl ?_
    refine SPL_y (y_nil rfl) rfl ?_
    refine SPL_y (y_fa fld_263_4 rfl) rfl ?_
    refine SPL_y (y_load Tryz.isAgg112 rfl (by repeat (first | exact Cell.amid hpre rfl | exact Cell.head rfl | apply Cell.tail))) rfl ?_
    refine SPL_y (y_move rfl) rfl ?_
    refine SPL_y (y_subE rfl rfl (c := (k : Int)) (by omega) (by omega)) rfl ?_
    refine SPL_y (y_ia Tryz.underlying112 Tryz.sizeOf3 rfl rfl (by omega)) rfl ?_
    refine SPL_y (y_load Tryz.isAgg3 rfl (by repeat (first | exact (map_cell (d := 0) (by omega) (by omega)) | apply Cell.tail))) rfl ?_
    rw [show ((k : Nat) : Int).toNat = k from Int.toNat_natCast k, hkj]
    refine SPL_y (y_assign rfl) rfl ?_
    refine SPL_nil ?_
    refine thenP_n ?_
    refine SP_ret ?_
    refine thenP_ret (bodyP_ret (H' := [List.flatten [blk b.vb 115 [pt b.nb, pt b.tb, .slice ph.pa m.pg.protos.length ph.pc, .slice ph.da m.pg.descs.length ph.dc, .slice ph.ka m.pg.consts.length ph.kc, .slice ph.ca m.pg.code.length ph.cc, .slice la m.vs.clos.length lc, .slice ua m.vs.upix.length uc, .slice (some ⟨eb, 0, none⟩) m.vs.cells.length ec, .slice (some ⟨b.thb, 0, none⟩) m.vs.threads.length 5, I m.vs.fuel, .slice xa m.vs.out.length xc, I m.ended], r, (blk eb 287 (m.vs.cells.flatMap ceV ++ esp)), blk b.thb 263 (c0 ++ [I t.st, I t.fn, .slice g.sa t.stack.length g.sc, .slice g.fa t.frames.length g.fc, .slice (some ⟨nq, 0, none⟩) t.opn.length nc] ++ c2), s0, ss, sf, (blk nq 3 (t.opn.map I ++ nsp)), s2]]) (Res1 rfl rfl) (by repeat (first | exact Part.nil _ | (apply Part.cons; with_reducible (first | exact P0 | exact P1 | exact P2 | exact P3 | exact P4 | exact P5 | exact P6 | exact P7 | exact P8 | exact P9 | exact P10 | exact P11 | exact P12 | exact P13 | exact P14 | exact P15 | exact P16 | exact P17 | exact P18 | exact P19 | exact P20 | exact P21 | exact P22 | exact P23)) | (apply Part.flat; simp only [List.cons_append, List.nil_append]) | (apply Part.cons; (first | exact P0 | exact P1 | exact P2 | exact P3 | exact P4 | exact P5 | exact P6 | exact P7 | exact P8 | exact P9 | exact P10 | exact P11 | exact P12 | exact P13 | exact P14 | exact P15 | exact P16 | exact P17 | exact P18 | exact P19 | exact P20 | exact P21 | exact P22 | exact P23)) | (apply Part.nilc))) ?_)
    exact ⟨rfl, _, hM0, rfl⟩
  intro h4_19
  refine SPO_p rfl (y_pick_t rfl rfl) rfl ?_
  refine SPO_nil ?_
  refine thenP_n ?_
  refine SP_cond_f rfl ?_
  refine SP_skip ?_
  refine thenP_n ?_
  refine SP_seq ?_
  rw [if_neg h4_19] at hP
  unfold capNew at hP
  have hcl9 : m.vs.cells.length < 1000000 := Decidable.byContradiction fun q => by rw [if_neg q] at hP; cases hP
  refine SP_region ?_
  refine SPL_y (y_move rfl) rfl ?_
  refine SPL_y (y_nil rfl) rfl ?_
  refine SPL_y (y_fa fld_115_8 rfl) rfl ?_
  refine SPL_y (y_load Tryz.isAgg113 rfl (by repeat (first | exact Cell.amid hpre rfl | exact Cell.head rfl | apply Cell.tail))) rfl ?_
  refine SPL_y (y_len_l Tryz.underlying113 rfl) rfl ?_
  refine SPL_y (y_assign rfl) rfl ?_
  refine SPL_nil ?_
  refine thenP_n ?_
  refine SP_seq ?_
  refine SP_region ?_
  refine SPL_y (y_move rfl) rfl ?_
  refine SPL_y (y_move rfl) rfl ?_
  refine SPL_y (y_nil rfl) rfl ?_
  refine SPL_y (y_fa fld_115_8 rfl) rfl ?_
  refine SPL_y (y_load Tryz.isAgg113 rfl (by repeat (first | exact Cell.amid hpre rfl | exact Cell.head rfl | apply Cell.tail))) rfl ?_
  refine SPL_y (y_move rfl) rfl ?_
  refine SPL_y (y_move rfl) rfl ?_
  refine SPL_y (y_buildN (l := ceV ⟨th, at_, V.nil⟩) BN287 rfl rfl) rfl ?_
  refine SPL_one rfl (SP1_slice1 el_113 rfl rfl rfl rfl rfl ?_)
  intro b81
  refine SPL_one rfl (SP1_append el_113 (.inl Tryz.underlying113) rfl rfl hce (by first | exact P0 | exact P1 | exact P2 | exact P3 | exact P4 | exact P5 | exact P6 | exact P7 | exact P8 | exact P9 | exact P10 | exact P11 | exact P12 | exact P13 | exact P14 | exact P15 | exact P16 | exact P17 | exact P18 | exact P19 | exact P20 | exact P21 | exact P22 | exact P23) (Src.of (by repeat (first | exact Cells.all _ | exact Cells.amid hpre rfl (by decide) | exact Cells.head rfl | apply Cells.tail)) (by rfl)) (by rfl) (by omega) rfl ?_)
  intro ea1 ec1 se1 hA1
  refine SPL_y (y_nil rfl) rfl ?_
  refine SPL_y (y_fa fld_115_8 rfl) rfl ?_
  refine SPL_one rfl (SP1_store Tryz.sizeOf113 rfl rfl rfl (by first | exact U0 | exact U1 | exact U2 | exact U3 | exact U4 | exact U5 | exact U6 | exact U7 | exact U8 | exact U9 | exact U10 | exact U11 | exact U12 | exact U13 | exact U14 | exact U15 | exact U16 | exact U17 | exact U18 | exact U19 | exact U20 | exact U21 | exact U22 | exact U23) (by rfl) ?_)
  refine SPL_nil ?_
  refine thenP_n ?_
  refine SP_seq ?_
  refine SP_region ?_
  refine SPL_y (y_move rfl) rfl ?_
  refine SPL_y (y_move rfl) rfl ?_
  refine SPL_y (y_nil rfl) rfl ?_
  refine SPL_y (y_fa fld_263_4 rfl) rfl ?_
  refine SPL_y (y_load Tryz.isAgg112 rfl (by repeat (first | exact Cell.amid hpre rfl | exact Cell.head rfl | apply Cell.tail))) rfl ?_
  refine SPL_one rfl (SP1_slice1 el_112 rfl rfl rfl rfl rfl ?_)
  intro b90
  refine SPL_one rfl (SP1_append el_112 (.inl Tryz.underlying112) rfl rfl hsn (by first | exact P0 | exact P1 | exact P2 | exact P3 | exact P4 | exact P5 | exact P6 | exact P7 | exact P8 | exact P9 | exact P10 | exact P11 | exact P12 | exact P13 | exact P14 | exact P15 | exact P16 | exact P17 | exact P18 | exact P19 | exact P20 | exact P21 | exact P22 | exact P23) (Src.of (by repeat (first | exact Cells.all _ | exact Cells.amid hpre rfl (by decide) | exact Cells.head rfl | apply Cells.tail)) (by rfl)) (by rfl) (by omega) rfl ?_)
  intro na1 nc1 sn1 hA2
  refine SPL_y (y_nil rfl) rfl ?_
  refine SPL_y (y_fa fld_263_4 rfl) rfl ?_
  refine SPL_one rfl (SP1_storeM (j := 4) Tryz.sizeOf112 rfl rfl rfl hpre (by first | exact U0 | exact U1 | exact U2 | exact U3 | exact U4 | exact U5 | exact U6 | exact U7 | exact U8 | exact U9 | exact U10 | exact U11 | exact U12 | exact U13 | exact U14 | exact U15 | exact U16 | exact U17 | exact U18 | exact U19 | exact U20 | exact U21 | exact U22 | exact U23) (by rfl) ?_)
  simp only [List.set_cons_zero, List.set_cons_succ, List.take_succ_cons, List.take_zero, List.drop_succ_cons, List.drop_zero, List.cons_append, List.nil_append]
  refine SPL_nil ?_
  refine thenP_n ?_
  refine SP_seq ?_
  obtain ⟨L, hLd⟩ : ∃ L : List Int, L = t.opn ++ [0] := ⟨_, rfl⟩
  rw [show t.opn.map I ++ [I 0] = L.map I from by rw [hLd]; simp] at hA2
  obtain ⟨nb, nsp1, rfl, hnc1, hnsp1, rfl⟩ := hA2.row (by omega)
  have hL1 : t.opn.length + 1 = L.length := by rw [hLd]; simp
  have hnl : (k + 1) ≤ t.opn.length := by omega
  have hsrc : Cells [blk nb 3 (L.map I ++ nsp1)] nb (0 + (k + 1) * 1) ((L.drop (k + 1)).map I) := by
    refine Cells.head ?_
    rw [Nat.zero_add, Nat.mul_one, List.drop_append_of_le_length (by rw [List.length_map]; omega), ← List.map_drop, List.take_left' rfl]
  refine SP_draw 13 [(0, 0), (1, 0), (2, 0), (4, 0), (5, 0), (7, 0), (8, 0), (9, 0), (11, 0), (3, 1), (6, 0), (10, 1), (12, 0), (13, 3)] mixed (by kernel_rfl) (fun _ _ _ _ _ h => h) (Part.refl _) ?_
  refine SPO_p rfl (y_move rfl) rfl ?_
  refine SPO_p rfl (y_nil rfl) rfl ?_
  refine SPO_p rfl (y_fa fld_263_4 rfl) rfl ?_
  refine SPO_p rfl (y_move rfl) rfl ?_
  refine SPO_p rfl (y_add rfl rfl (by omega)) rfl ?_
  refine SPO_p rfl (y_move rfl) rfl ?_
  refine SPO_p rfl (y_nil rfl) rfl ?_
  refine SPO_p rfl (y_fa fld_263_4 rfl) rfl ?_
  refine SPO_p rfl (y_move rfl) rfl ?_
  refine SPO_h rfl (y_load Tryz.isAgg112 rfl (by repeat (first | exact Cell.amid hpre rfl | exact Cell.head rfl | apply Cell.tail))) rfl ?_
  refine SPO_p rfl (y_fromA (v := .slice (some ⟨nb, oD nc1 ((k + 1)), none⟩) (L.length - ((k + 1) + 1)) (nc1 - ((k + 1) + 1))) hA2 Tryz.underlying112 Tryz.sizeOf3 rfl rfl (by omega) (by unfold oD; rw [show (((((k + 1) : Nat) : Int) + 1)).toNat = (k + 1) + 1 from by omega, hL1]; split <;> rfl)) rfl ?_
  refine SPO_h rfl (y_load Tryz.isAgg112 rfl (by repeat (first | exact Cell.amid hpre rfl | exact Cell.head rfl | apply Cell.tail))) rfl ?_
  refine SPO_p rfl (y_fromA (v := .slice (some ⟨nb, 0 + (k + 1) * 1, none⟩) (L.length - (k + 1)) (nc1 - (k + 1))) hA2 Tryz.underlying112 Tryz.sizeOf3 rfl rfl (by omega) (by rw [show ((((k + 1) : Nat) : Int)).toNat = (k + 1) from by omega, if_neg (by omega), hL1]; rfl)) rfl ?_
  refine SPO_z (k := 0) rfl rfl (SP1_copy (vs := (L.drop (k + 1)).map I) (l' := (L.take ((k + 1) + 1) ++ (L.drop (k + 1)).take (t.opn.length - (k + 1))).map I ++ nsp1) el_112 rfl rfl (Src.slice (by rw [List.length_map, List.length_drop]; omega) (by repeat (first | exact Cells.inn2 hsrc | apply Cells.tail))) (I_one _) (by first | exact U0 | exact U1 | exact U2 | exact U3 | exact U4 | exact U5 | exact U6 | exact U7 | exact U8 | exact U9 | exact U10 | exact U11 | exact U12 | exact U13 | exact U14 | exact U15 | exact U16 | exact U17 | exact U18 | exact U19 | exact U20 | exact U21 | exact U22 | exact U23) (by rw [List.length_append, List.length_map]; unfold oD; split <;> omega) (by have hcc := copy_list L nsp1 ((k + 1)) nc1 (by omega) (by omega); rw [show L.length - 1 - ((k + 1)) = t.opn.length - ((k + 1)) from by omega] at hcc; exact hcc) rfl ?_)
  refine SPO_nil ?_
  refine thenP_n ?_
  refine SP_seq ?_
  refine SP_region ?_
  refine SPL_y (y_move rfl) rfl ?_
  refine SPL_y (y_nil rfl) rfl ?_
  refine SPL_y (y_fa fld_263_4 rfl) rfl ?_
  refine SPL_y (y_load Tryz.isAgg112 rfl (by repeat (first | exact Cell.amid hpre rfl | exact Cell.head rfl | apply Cell.tail))) rfl ?_
  refine SPL_y (y_move rfl) rfl ?_
  refine SPL_y (y_move rfl) rfl ?_
  refine SPL_y (y_ia Tryz.underlying112 Tryz.sizeOf3 rfl rfl (by omega)) rfl ?_
  refine SPL_one rfl (SP1_storeI (i := (k + 1)) (l := (L.take ((k + 1) + 1) ++ (L.drop (k + 1)).take (t.opn.length - (k + 1)))) (v := (m.vs.cells.length : Int)) Tryz.sizeOf3 rfl rfl rfl (by rw [List.length_append, List.length_take, List.length_take, List.length_drop]; omega) (by first | exact U0 | exact U1 | exact U2 | exact U3 | exact U4 | exact U5 | exact U6 | exact U7 | exact U8 | exact U9 | exact U10 | exact U11 | exact U12 | exact U13 | exact U14 | exact U15 | exact U16 | exact U17 | exact U18 | exact U19 | exact U20 | exact U21 | exact U22 | exact U23) ?_)
  refine SPL_nil ?_
  refine thenP_n ?_
  refine SP_seq ?_
  refine SP_region ?_
  refine SPL_y (y_move rfl) rfl ?_
  refine SPL_y (y_assign rfl) rfl ?_
  refine SPL_nil ?_
  refine thenP_n ?_
  refine SP_ret ?_
  refine bodyP_ret (H' := [List.flatten [blk b.vb 115 [pt b.nb, pt b.tb, .slice ph.pa m.pg.protos.length ph.pc, .slice ph.da m.pg.descs.length ph.dc, .slice ph.ka m.pg.consts.length ph.kc, .slice ph.ca m.pg.code.length ph.cc, .slice la m.vs.clos.length lc, .slice ua m.vs.upix.length uc, .slice ea1 (m.vs.cells.length + 1) ec1, .slice (some ⟨b.thb, 0, none⟩) m.vs.threads.length 5, I m.vs.fuel, .slice xa m.vs.out.length xc, I m.ended], r, se1, blk b.thb 263 (c0 ++ [I t.st, I t.fn, .slice g.sa t.stack.length g.sc, .slice g.fa t.frames.length g.fc, .slice (some ⟨nb, 0, none⟩) (t.opn.length + 1) nc1] ++ c2), s0, ss, sf, (blk nb 3 (((L.take ((k + 1) + 1) ++ (L.drop (k + 1)).take (t.opn.length - (k + 1))).set ((k + 1)) (m.vs.cells.length : Int)).map I ++ nsp1)), s2]]) (Res1 rfl rfl) (by repeat (first | exact Part.nil _ | (apply Part.cons; with_reducible (first | exact P0 | exact P1 | exact P2 | exact P3 | exact P4 | exact P5 | exact P6 | exact P7 | exact P8 | exact P9 | exact P10 | exact P11 | exact P12 | exact P13 | exact P14 | exact P15 | exact P16 | exact P17 | exact P18 | exact P19 | exact P20 | exact P21 | exact P22 | exact P23)) | (apply Part.flat; simp only [List.cons_append, List.nil_append]) | (apply Part.cons; (first | exact P0 | exact P1 | exact P2 | exact P3 | exact P4 | exact P5 | exact P6 | exact P7 | exact P8 | exact P9 | exact P10 | exact P11 | exact P12 | exact P13 | exact P14 | exact P15 | exact P16 | exact P17 | exact P18 | exact P19 | exact P20 | exact P21 | exact P22 | exact P23)) | (apply Part.nilc))) ?_
  have hsh := shift_list t.opn ((k + 1)) (m.vs.cells.length : Int) (by omega)
  rw [← hLd] at hsh
  rw [hsh]
  have hln : t.opn.length + 1 = (t.opn.take (k + 1) ++ [(m.vs.cells.length : Int)] ++ t.opn.drop (k + 1)).length := by simp; omega
  have hA3 : Arr 3 1 (some ⟨nb, 0, none⟩) (t.opn.take (k + 1) ++ [(m.vs.cells.length : Int)] ++ t.opn.drop (k + 1)).length nc1 ((t.opn.take (k + 1) ++ [(m.vs.cells.length : Int)] ++ t.opn.drop (k + 1)).map I) (blk nb 3 ((t.opn.take (k + 1) ++ [(m.vs.cells.length : Int)] ++ t.opn.drop (k + 1)).map I ++ nsp1)) := by
    rw [← hln]
    exact Arr.mk (by rw [List.length_map, ← hln]; omega) hnc1 hnsp1
  have hA4 : Arr 287 5 ea1 (m.vs.cells ++ [(⟨th, at_, V.nil⟩ : Ce)]).length ec1 ((m.vs.cells ++ [(⟨th, at_, V.nil⟩ : Ce)]).flatMap ceV) se1 := by
    rw [List.length_append, List.flatMap_append]; exact hA1
  have hM2 := hput (m.vs.cells ++ [(⟨th, at_, V.nil⟩ : Ce)]) { t with opn := (t.opn.take (k + 1) ++ [(m.vs.cells.length : Int)] ++ t.opn.drop (k + 1)) } g ea1 ec1 (some ⟨nb, 0, none⟩) nc1 se1 ss sf _ hA4 hss hsf hA3
  rw [set_same hg] at hM2
  dsimp only at hM2
  rw [← hln, List.length_append] at hM2
  rw [if_pos hcl9] at hP
  injection hP with hP
  injection hP with h1 h2
  subst h1
  subst h2
  exact ⟨rfl, _, hM2, rfl⟩

end Go.Sl
