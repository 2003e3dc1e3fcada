/- Walks: package table, migrate (made by program out of short notes) -/
import Derived.Test.Qxb6500573aGreatDoorAU
namespace Go.Sl
open Go Go.Wl Go.Proofs
set_option maxRecDepth 100000
set_option linter.unusedVariables false
set_option linter.unusedSimpArgs false
theorem mov_same {a : List Int} : ∀ {k : Nat} {t t2 : Tb}, movL a k t = some t2 → t2.order = t.order ∧ t2.strs = t.strs ∧ t2.refs = t.refs ∧ t2.dead = t.dead
  | 0, _, _, h => by cases h
  | k + 1, t, t2, h => by
    unfold movL at h
    split at h
    · split at h
      · split at h
        · have e := mov_same h
          exact e
        · cases h
      · cases h; exact ⟨rfl, rfl, rfl, rfl⟩
    · cases h; exact ⟨rfl, rfl, rfl, rfl⟩
theorem mig_same {t t2 : Tb} (h : migM t = some t2) : t2.order = t.order ∧ t2.strs = t.strs ∧ t2.refs = t.refs ∧ t2.dead = t.dead := by
  unfold migM at h
  split at h
  · cases h; exact ⟨rfl, rfl, rfl, rfl⟩
  · split at h
    · exact mov_same h
    · cases h
theorem atS_len (n : Nat) (a : List Int) (e : Int × Int) : (atS n a e).length = a.length := by unfold atS; split <;> simp
theorem atF_len (n : Nat) : ∀ (l : List (Int × Int)) (a : List Int), (l.foldl (atS n) a).length = a.length
  | [], _ => rfl
  | e :: l, a => by rw [List.foldl_cons, atF_len n l, atS_len]
theorem cand_bd (n : Nat) (x : Int) : 0 ≤ cand n x ∧ cand n x ≤ 32 := by
  unfold cand
  split
  · split <;> omega
  · omega
theorem atL_perm {n : Nat} {l d : List (Int × Int)} (hi : injB n l = true) (hp : d.Perm l) (z : List Int) : d.foldl (atS n) z = l.foldl (atS n) z := by
  have hi2 : ∀ e, e ∈ l → ∀ e', e' ∈ l → cand n e.1 = cand n e'.1 → cand n e.1 ≠ 0 → e = e' := by
    intro e he e' he'
    unfold injB at hi
    have h1 := List.all_eq_true.1 hi e he
    have h2 := List.all_eq_true.1 h1 e' he'
    exact of_decide_eq_true h2
  refine List.Perm.foldl_eq' hp (fun x hx y hy z => ?_) z
  by_cases hxy : x = y
  · rw [hxy]
  · have bx := cand_bd n x.1
    have b_y := cand_bd n y.1
    unfold atS
    by_cases h1 : cand n x.1 = 0
    · rw [if_pos h1]
      by_cases h2 : cand n y.1 = 0
      · rw [if_pos h2]; simp [h1]
      · rw [if_neg h2, if_pos h1]
    · rw [if_neg h1]
      by_cases h2 : cand n y.1 = 0
      · simp [h1, h2]
      · rw [if_neg h2, if_neg h2, if_neg h1]
        refine List.set_comm _ _ fun q => hxy ?_
        exact hi2 x (hp.mem_iff.1 hx) y (hp.mem_iff.1 hy) (by omega) h1
theorem perm_er {α : Type} : ∀ {l : List α} {i : Nat} (hi : i < l.length), (l[i] :: l.eraseIdx i).Perm l
  | x :: l, 0, _ => List.Perm.refl _
  | x :: l, i + 1, hi => by
    have h : i < l.length := by simpa using hi
    rw [List.getElem_cons_succ, List.eraseIdx_cons_succ]
    exact (List.Perm.swap _ _ _).trans ((perm_er h).cons x)
theorem perm_at {α : Type} {d rest l : List α} {i : Nat} (hi : i < rest.length) (hp : (d ++ rest).Perm l) : (d ++ [rest[i]] ++ rest.eraseIdx i).Perm l := by
  refine List.Perm.trans ?_ hp
  rw [List.append_assoc]
  refine List.Perm.append_left d ?_
  exact perm_er hi
theorem at_cell {l : List Int} {b : Nat} {T : TypeId} {H : Hp} {j : Int} (h0 : 0 ≤ j) (hj : j < l.length) : Cell (blk b T (l.map i32V) :: H) b (0 + j.toNat * 1) (i32V (l.getD j.toNat 0)) := by
  refine Cell.head ?_
  have hl : j.toNat < l.length := by omega
  rw [show 0 + j.toNat * 1 = j.toNat by omega, List.getElem?_map, List.getD_eq_getElem?_getD, List.getElem?_eq_getElem hl]
  rfl
section
variable {P : Program} {n : Nat} {Q : Post} {D : Defs} {ρ : Env} {H : Hp} {ty : TypeId} {K : Kont} {d : Nat} {pos : String} {af : Array Edge} {g : Option (Nat × Bool)}
theorem SP1_storeJ {t : TypeId} {x y : Operand} {b : Nat} {i : Int} {T : TypeId} {v : Int} {l : List Int} {H' : Hp} (hz : ∀ w, (sizeOf t).run P w = .ok 1 w) (hx : ev ρ x = some (.pointer (some ⟨b, 0 + i.toNat * 1, none⟩))) (hy : ev ρ y = some (i32V v)) (h1 : (i32V v).oneCell' = true) (h0 : 0 ≤ i) (hi : i < l.length)
    (hu : Upd H b T (l.map i32V) ((l.set i.toNat v).map i32V) H') (kk : K D ρ H') : SP1 P n { dst := none, op := .store t x y, type := ty, pos := pos, after := af, guard := g } Q K D ρ H := by
  have e : 0 + i.toNat * 1 = i.toNat := by omega
  rw [e] at hx
  refine SP1_store (T := T) (l := l.map i32V) hz hx hy h1 ?_ (ble_of (by simp; omega)) kk
  rw [← List.map_set]
  exact hu
end
theorem nums_at {l : List (Int × Int)} (h : numsOk l = true) {e : Int × Int} (he : e ∈ l) : 0 ≤ e.1 ∧ 0 ≤ e.2 ∧ e.2 ≤ 1000000 ∧ ∃ i w, toIntM e.1.toNat = some (i, w) := by
  unfold numsOk at h
  have h1 := List.all_eq_true.1 h e he
  rw [Bool.and_eq_true] at h1
  obtain ⟨h2, h3⟩ := h1
  have h2 := of_decide_eq_true h2
  obtain ⟨r, hr⟩ := Option.isSome_iff_exists.1 h3
  exact ⟨h2.1, h2.2.1, h2.2.2, r.1, r.2, hr⟩
theorem cand_F {n : Nat} {x i : Int} (h : toIntM x.toNat = some (i, false)) : cand n x = 0 := by unfold cand; rw [h]
theorem cand_T {n : Nat} {x i : Int} (h : toIntM x.toNat = some (i, true)) : cand n x = if (n : Int) < i ∧ i ≤ 32 then i else 0 := by unfold cand; rw [h]
theorem toInt_bd {x : Nat} {i : Int} {w : Bool} (h : toIntM x = some (i, w)) : -9223372036854775808 ≤ i ∧ i ≤ 9223372036854775807 := by
  unfold toIntM at h
  split at h
  · split at h
    · split at h
      · rename_i hb
        split at h
        · cases h; omega
        · cases h; exact hb
      · cases h
    · cases h
  · cases h; omega
set_option maxHeartbeats 1000000 in
theorem tab_migrate (b tb o : Nat) (nv r1 r2 : Value) (pre post : List Value) (hpre : pre.length = o) (t : Tb) (oa aa : Option Addr) (oc ac mn : Nat) (x3 x4 x5 : Value) (so sa sn : Seg) (ho : Arr 257 6 oa t.order.length oc (t.order.flatMap entV) so) (ha : Arr 21 1 aa t.arr.length ac (t.arr.map i32V) sa) (hn : isMap u64K i32V mn t.nums sn) (hal : t.arr.length ≤ 1000) (t2 : Tb) (h : migM t = some t2) : Spec Tryz.prog 139 [.pointer (some ⟨b, 0, none⟩), .pointer (some ⟨tb, o, none⟩)] [blk b 103 [nv, r1, r2], blk tb 245 (pre ++ [.slice oa t.order.length oc, .slice aa (t.arr.length) ac, .map (some mn), x3, x4, x5] ++ post), so, sa, sn] (Ret fun v H => v = .tuple #[] ∧ ∃ aa' ac' sa' sn', Arr 21 1 aa' t2.arr.length ac' (t2.arr.map i32V) sa' ∧ isMap u64K i32V mn t2.nums sn' ∧ H = [blk b 103 [nv, r1, r2], blk tb 245 (pre ++ [.slice oa t.order.length oc, .slice aa' (t2.arr.length) ac', .map (some mn), x3, x4, x5] ++ post), so, sa', sn']) := by
  unfold migM at h
  refine Spec_enter Tryz.func139 rfl Tryz.ntmps139 rfl ?_
  show SP _ _ _ _ _ [(0, _), (1, _)] _
  refine SP_seq ?_
  refine SP_seq ?_
  refine SP_region ?_
  refine SPL_y (y_move rfl) rfl ?_
  refine SPL_y (y_nil rfl) rfl ?_
  refine SPL_y (y_fa fld_245_2 rfl) rfl ?_
  refine SPL_y (y_load Tryz.isAgg242 rfl (by repeat (first | exact Cell.amid hpre rfl | exact Cell.head rfl | apply Cell.tail))) rfl ?_
  refine SPL_y (y_len_m hn Tryz.underlying242 rfl (fun p hp => by simp only [List.flatten_cons, List.mem_append]; simp [hp])) rfl ?_
  refine SPL_if (y_eql rfl rfl) rfl ?_ ?_
  · intro h0_5
    refine SPL_nil ?_
    refine thenP_n ?_
    refine SP_cond_t rfl ?_
    refine SP_ret ?_
    refine thenP_ret (bodyP_ret (H' := [blk b 103 [nv, r1, r2], blk tb 245 (pre ++ [.slice oa t.order.length oc, .slice aa (t.arr.length) ac, .map (some mn), x3, x4, x5] ++ post), so, sa, sn]) (Res0 rfl) (by repeat (first | exact Part.nil _ | (apply Part.cons; with_reducible (first | exact P0 | exact P1 | exact P2 | exact P3 | exact P4 | exact P5 | exact P6 | exact P7 | exact P8 | exact P9 | exact P10 | exact P11 | exact P12 | exact P13 | exact P14 | exact P15 | exact P16 | exact P17 | exact P18 | exact P19 | exact P20 | exact P21 | exact P22 | exact P23)) | (apply Part.flat; simp only [List.cons_append, List.nil_append]) | (apply Part.cons; (first | exact P0 | exact P1 | exact P2 | exact P3 | exact P4 | exact P5 | exact P6 | exact P7 | exact P8 | exact P9 | exact P10 | exact P11 | exact P12 | exact P13 | exact P14 | exact P15 | exact P16 | exact P17 | exact P18 | exact P19 | exact P20 | exact P21 | exact P22 | exact P23)) | (apply Part.nilc))) ?_)
    rw [if_pos (List.length_eq_zero_iff.1 (by omega))] at h
    cases h
    exact ⟨rfl, aa, ac, sa, sn, ha, hn, rfl⟩
  intro h0_5
  refine SPL_nil ?_
  refine thenP_n ?_
  refine SP_cond_f rfl ?_
  refine SP_skip ?_
  refine thenP_n ?_
  refine SP_seq ?_
  have hne : t.nums ≠ [] := fun q => h0_5 (by rw [q]; rfl)
  rw [if_neg hne] at h
  have hg : numsOk t.nums = true ∧ injB t.arr.length t.nums = true ∧ t.order.length ≤ 1000 ∧ t.arr.length ≤ 1000 := Decidable.byContradiction fun q => by rw [if_neg q] at h; cases h
  rw [if_pos hg] at h
  refine SP_region ?_
  refine SPL_one rfl (SP1_alloc Tryz.zeroValue328 rfl rfl ?_)
  intro b4
  refine SPL_nil ?_
  refine thenP_n ?_
  refine SP_seq ?_
  refine SP_seq ?_
  refine SP_region ?_
  refine SPL_y (y_move rfl) rfl ?_
  refine SPL_y (y_nil rfl) rfl ?_
  refine SPL_y (y_fa fld_245_2 rfl) rfl ?_
  refine SPL_y (y_load Tryz.isAgg242 rfl (by repeat (first | exact Cell.amid hpre rfl | exact Cell.head rfl | apply Cell.tail))) rfl ?_
  refine SPL_one rfl (SP1_rangeM Tryz.underlying242 hn rfl (by first | exact P0 | exact P1 | exact P2 | exact P3 | exact P4 | exact P5 | exact P6 | exact P7 | exact P8 | exact P9 | exact P10 | exact P11 | exact P12 | exact P13 | exact P14 | exact P15 | exact P16 | exact P17 | exact P18 | exact P19 | exact P20 | exact P21 | exact P22 | exact P23) rfl ?_)
  intro rb sg hI0
  refine SPL_nil ?_
  refine thenP_n ?_
  refine SP_block ?_
  refine SP_loop (G := List (Int × Int) × List Int × Option (Int × Int) × Seg) (fun g => g.1.length) (fun g => [(0, .pointer (some ⟨b, 0, none⟩)), (1, .pointer (some ⟨tb, o, none⟩)), (4, .pointer (some ⟨b4, 0, none⟩)), (21, .pointer (some ⟨rb, 0, none⟩))]) (fun g => [blk b 103 [nv, r1, r2], blk tb 245 (pre ++ [.slice oa t.order.length oc, .slice aa (t.arr.length) ac, .map (some mn), x3, x4, x5] ++ post), so, sa, g.2.2.2, blk b4 328 (g.2.1.map i32V)]) (fun g => isRng u64K i32V mn rb t.nums g.1 g.2.2.1 g.2.2.2 ∧ ∃ d, (d ++ g.1).Perm t.nums ∧ g.2.1 = d.foldl (atS t.arr.length) (List.replicate 33 0)) ((t.nums, List.replicate 33 0, none, sg)) (⟨hI0, [], List.Perm.refl _, rfl⟩) (by repeat (first | exact Sub.nil _ | refine Sub.cons rfl ?_)) (by repeat (first | exact Part.nil _ | (apply Part.cons; with_reducible (first | exact P0 | exact P1 | exact P2 | exact P3 | exact P4 | exact P5 | exact P6 | exact P7 | exact P8 | exact P9 | exact P10 | exact P11 | exact P12 | exact P13 | exact P14 | exact P15 | exact P16 | exact P17 | exact P18 | exact P19 | exact P20 | exact P21 | exact P22 | exact P23)) | (apply Part.flat; simp only [List.cons_append, List.nil_append]) | (apply Part.cons; (first | exact P0 | exact P1 | exact P2 | exact P3 | exact P4 | exact P5 | exact P6 | exact P7 | exact P8 | exact P9 | exact P10 | exact P11 | exact P12 | exact P13 | exact P14 | exact P15 | exact P16 | exact P17 | exact P18 | exact P19 | exact P20 | exact P21 | exact P22 | exact P23)) | (apply Part.nilc))) ?_
  rintro ⟨rest, a, cur, sg1⟩ ⟨hI, d, hpm, had⟩
  dsimp only at hI hpm had ⊢
  refine SP_seq ?_
  refine SP_region ?_
  refine SPL_one rfl (SP1_nextM hI rfl (by first | exact P0 | exact P1 | exact P2 | exact P3 | exact P4 | exact P5 | exact P6 | exact P7 | exact P8 | exact P9 | exact P10 | exact P11 | exact P12 | exact P13 | exact P14 | exact P15 | exact P16 | exact P17 | exact P18 | exact P19 | exact P20 | exact P21 | exact P22 | exact P23) rfl ?_ ?_)
  · intro hrest
    refine SPL_y (y_ext rfl rfl) rfl ?_
    refine SPL_nil ?_
    refine thenP_n ?_
    refine SP_seq ?_
    refine SP_cond_f rfl ?_
    refine SP_exit ?_
    refine thenP_exit ?_
    refine thenP_exit ?_
    refine inBlockP_hit ?_
    refine thenP_n ?_
    refine SP_seq ?_
    obtain ⟨sm, st, rfl, hn1⟩ := hI.map
    have hat : a = atL t.arr.length t.nums := by
      rw [hrest, List.append_nil] at hpm
      rw [had]
      exact atL_perm hg.2.1 hpm _
    rw [← hat] at h
    have hal2 : a.length = 33 := by rw [had, atF_len]; rfl
    refine SP_openAt [sm, st] (by first | exact P0 | exact P1 | exact P2 | exact P3 | exact P4 | exact P5 | exact P6 | exact P7 | exact P8 | exact P9 | exact P10 | exact P11 | exact P12 | exact P13 | exact P14 | exact P15 | exact P16 | exact P17 | exact P18 | exact P19 | exact P20 | exact P21 | exact P22 | exact P23) ?_
    simp only [List.cons_append, List.nil_append]
    refine SP_region ?_
    refine SPL_y (y_move rfl) rfl ?_
    refine SPL_y (y_nil rfl) rfl ?_
    refine SPL_y (y_fa fld_245_1 rfl) rfl ?_
    refine SPL_y (y_load Tryz.isAgg241 rfl (by repeat (first | exact Cell.amid hpre rfl | exact Cell.head rfl | apply Cell.tail))) rfl ?_
    refine SPL_y (y_len_l Tryz.underlying241 rfl) rfl ?_
    refine SPL_y (y_add rfl rfl (by omega)) rfl ?_
    refine SPL_y (y_assign rfl) rfl ?_
    refine SPL_nil ?_
    refine thenP_n ?_
    refine SP_block ?_
    refine SP_loop (G := Nat × Tb × Option Addr × Nat × Seg × Seg) (fun g => g.1) (fun g => [(0, .pointer (some ⟨b, 0, none⟩)), (1, .pointer (some ⟨tb, o, none⟩)), (4, .pointer (some ⟨b4, 0, none⟩)), (9, I ((g.2.1.arr.length : Int) + 1))]) (fun g => [blk b 103 [nv, r1, r2], blk tb 245 (pre ++ [.slice oa t.order.length oc, .slice g.2.2.1 (g.2.1.arr.length) g.2.2.2.1, .map (some mn), x3, x4, x5] ++ post), so, g.2.2.2.2.1, g.2.2.2.2.2, blk b4 328 (a.map i32V)]) (fun g => movL a g.1 g.2.1 = some t2 ∧ g.2.1.order = t.order ∧ g.2.1.arr.length ≤ 1000 ∧ Arr 21 1 g.2.2.1 g.2.1.arr.length g.2.2.2.1 (g.2.1.arr.map i32V) g.2.2.2.2.1 ∧ isMap u64K i32V mn g.2.1.nums g.2.2.2.2.2) ((34, t, aa, ac, sa, sm)) (⟨h, rfl, hal, ha, hn1⟩) (by repeat (first | exact Sub.nil _ | refine Sub.cons rfl ?_)) (by repeat (first | exact Part.nil _ | (apply Part.cons; with_reducible (first | exact P0 | exact P1 | exact P2 | exact P3 | exact P4 | exact P5 | exact P6 | exact P7 | exact P8 | exact P9 | exact P10 | exact P11 | exact P12 | exact P13 | exact P14 | exact P15 | exact P16 | exact P17 | exact P18 | exact P19 | exact P20 | exact P21 | exact P22 | exact P23)) | (apply Part.flat; simp only [List.cons_append, List.nil_append]) | (apply Part.cons; (first | exact P0 | exact P1 | exact P2 | exact P3 | exact P4 | exact P5 | exact P6 | exact P7 | exact P8 | exact P9 | exact P10 | exact P11 | exact P12 | exact P13 | exact P14 | exact P15 | exact P16 | exact P17 | exact P18 | exact P19 | exact P20 | exact P21 | exact P22 | exact P23)) | (apply Part.nilc))) ?_
    rintro ⟨kk, u, aa1, ac1, sa1, sn1⟩ ⟨hm, huo, hul, ha1, hn2⟩
    dsimp only at hm huo hul ha1 hn2 ⊢
    cases kk with
    | zero => cases hm
    | succ kk =>
    unfold movL at hm
    have hcast : ((u.arr.length : Int) + 1).toNat = u.arr.length + 1 := by omega
    refine SP_seq ?_
    refine SP_seq ?_
    refine SP_region ?_
    refine SPL_y (y_move rfl) rfl ?_
    refine SPL_ifn (y_leq rfl rfl) rfl ?_ ?_
    · intro h9_1
      refine SPL_y (y_move rfl) rfl ?_
      refine SPL_gn rfl rfl rfl rfl ?_
      refine SPL_gn rfl rfl rfl rfl ?_
      refine SPL_gn rfl rfl rfl rfl ?_
      refine SPL_gn rfl rfl rfl rfl ?_
      refine SPL_y (y_pick_f rfl rfl) rfl ?_
      refine SPL_nil ?_
      refine thenP_n ?_
      refine SP_cond_f rfl ?_
      refine SP_exit ?_
      refine thenP_exit ?_
      refine thenP_exit ?_
      refine inBlockP_hit ?_
      refine bodyP_end (H' := [blk b 103 [nv, r1, r2], blk tb 245 (pre ++ [.slice oa t.order.length oc, .slice aa1 (u.arr.length) ac1, .map (some mn), x3, x4, x5] ++ post), so, sa1, sn1]) (Res0 rfl) (by repeat (first | exact Part.nil _ | (apply Part.cons; with_reducible (first | exact P0 | exact P1 | exact P2 | exact P3 | exact P4 | exact P5 | exact P6 | exact P7 | exact P8 | exact P9 | exact P10 | exact P11 | exact P12 | exact P13 | exact P14 | exact P15 | exact P16 | exact P17 | exact P18 | exact P19 | exact P20 | exact P21 | exact P22 | exact P23)) | (apply Part.flat; simp only [List.cons_append, List.nil_append]) | (apply Part.cons; (first | exact P0 | exact P1 | exact P2 | exact P3 | exact P4 | exact P5 | exact P6 | exact P7 | exact P8 | exact P9 | exact P10 | exact P11 | exact P12 | exact P13 | exact P14 | exact P15 | exact P16 | exact P17 | exact P18 | exact P19 | exact P20 | exact P21 | exact P22 | exact P23)) | (apply Part.nilc))) ?_
      rw [if_neg (by omega)] at hm
      cases hm
      exact ⟨rfl, aa1, ac1, sa1, sn1, ha1, hn2, rfl⟩
    intro h9_1
    refine SPL_y (y_move rfl) rfl ?_
    refine SPL_gy rfl rfl ?_
    refine SPL_y (y_move rfl) rfl ?_
    refine SPL_gy rfl rfl ?_
    refine SPL_y (y_ia_arr Tryz.underlying328 Tryz.sizeOf21 rfl rfl (by omega)) rfl ?_
    refine SPL_gy rfl rfl ?_
    refine SPL_y (y_load Tryz.isAgg21 rfl (by repeat (first | exact at_cell (by omega) (by omega) | apply Cell.tail))) rfl ?_
    rw [hcast]
    refine SPL_gy rfl rfl ?_
    refine SPL_ifn (y_neq rfl rfl) rfl ?_ ?_
    · intro h9_6
      refine SPL_y (y_pick_t rfl rfl) rfl ?_
      refine SPL_nil ?_
      refine thenP_n ?_
      refine SP_cond_f rfl ?_
      refine SP_exit ?_
      refine thenP_exit ?_
      refine thenP_exit ?_
      refine inBlockP_hit ?_
      refine bodyP_end (H' := [blk b 103 [nv, r1, r2], blk tb 245 (pre ++ [.slice oa t.order.length oc, .slice aa1 (u.arr.length) ac1, .map (some mn), x3, x4, x5] ++ post), so, sa1, sn1]) (Res0 rfl) (by repeat (first | exact Part.nil _ | (apply Part.cons; with_reducible (first | exact P0 | exact P1 | exact P2 | exact P3 | exact P4 | exact P5 | exact P6 | exact P7 | exact P8 | exact P9 | exact P10 | exact P11 | exact P12 | exact P13 | exact P14 | exact P15 | exact P16 | exact P17 | exact P18 | exact P19 | exact P20 | exact P21 | exact P22 | exact P23)) | (apply Part.flat; simp only [List.cons_append, List.nil_append]) | (apply Part.cons; (first | exact P0 | exact P1 | exact P2 | exact P3 | exact P4 | exact P5 | exact P6 | exact P7 | exact P8 | exact P9 | exact P10 | exact P11 | exact P12 | exact P13 | exact P14 | exact P15 | exact P16 | exact P17 | exact P18 | exact P19 | exact P20 | exact P21 | exact P22 | exact P23)) | (apply Part.nilc))) ?_
      rw [if_pos (by omega), if_neg h9_6] at hm
      cases hm
      exact ⟨rfl, aa1, ac1, sa1, sn1, ha1, hn2, rfl⟩
    intro h9_6
    refine SPL_y (y_pick_t rfl rfl) rfl ?_
    refine SPL_nil ?_
    refine thenP_n ?_
    refine SP_cond_t rfl ?_
    refine SP_skip ?_
    refine thenP_n ?_
    refine SP_seq ?_
    refine SP_block ?_
    refine SP_seq ?_
    rw [if_pos (by omega), if_pos h9_6] at hm
    have hx : 0 ≤ a.getD (u.arr.length + 1) 0 - 1 ∧ a.getD (u.arr.length + 1) 0 - 1 < u.order.length := Decidable.byContradiction fun q => by rw [if_neg q] at hm; cases hm
    rw [if_pos hx] at hm
    have hx2 := hx.2
    rw [huo] at hx2
    obtain ⟨p, hp⟩ : ∃ p : Nat, a.getD (u.arr.length + 1) 0 - 1 = p := ⟨(a.getD (u.arr.length + 1) 0 - 1).toNat, by omega⟩
    have hp2 : p < t.order.length := by omega
    obtain ⟨ob, osp, rfl, hoc, hosp, rfl⟩ := ho.row (by omega)
    refine SP_region ?_
    refine SPL_y (y_move rfl) rfl ?_
    refine SPL_y (y_ia_arr Tryz.underlying328 Tryz.sizeOf21 rfl rfl (by omega)) rfl ?_
    refine SPL_y (y_load Tryz.isAgg21 rfl (by repeat (first | exact at_cell (by omega) (by omega) | apply Cell.tail))) rfl ?_
    rw [hcast]
    refine SPL_y (y_subw rfl rfl rfl) rfl ?_
    rw [show IntKind.i32.wrap (a.getD (u.arr.length + 1) 0 - 1) = a.getD (u.arr.length + 1) 0 - 1 from by rw [IntKind.wrap_i32]; omega]
    refine SPL_y (y_assign rfl) rfl ?_
    refine SPL_nil ?_
    refine thenP_n ?_
    refine SP_seq ?_
    refine SP_draw 13 [(0, 0), (1, 0), (2, 0), (4, 0), (5, 0), (6, 0), (8, 0), (3, 1), (7, 1), (9, 0), (10, 0), (11, 0), (12, 1), (13, 3)] mixed (by kernel_rfl) (fun _ _ _ _ _ h => h) (Part.refl _) ?_
    refine SPO_p rfl (y_move rfl) rfl ?_
    refine SPO_p rfl (y_nil rfl) rfl ?_
    refine SPO_p rfl (y_fa fld_245_2 rfl) rfl ?_
    refine SPO_p rfl (y_move rfl) rfl ?_
    refine SPO_p rfl (y_nil rfl) rfl ?_
    refine SPO_p rfl (y_fa fld_245_0 rfl) rfl ?_
    refine SPO_p rfl (y_move rfl) rfl ?_
    refine SPO_h rfl (y_load Tryz.isAgg242 rfl (by repeat (first | exact Cell.amid hpre rfl | exact Cell.head rfl | apply Cell.tail))) rfl ?_
    refine SPO_h rfl (y_load Tryz.isAgg240 rfl (by repeat (first | exact Cell.amid hpre rfl | exact Cell.head rfl | apply Cell.tail))) rfl ?_
    refine SPO_p rfl (y_ia Tryz.underlying240 Tryz.sizeOf257 rfl rfl (by omega)) rfl ?_
    refine SPO_p rfl (y_fa fld_257_0 rfl) rfl ?_
    refine SPO_p rfl (y_fa fld_42_1 rfl) rfl ?_
    refine SPO_h rfl (y_load Tryz.isAgg40 rfl (by repeat (first | exact flat_cell (q := 1) entV_len hp hp2 rfl | apply Cell.tail))) rfl ?_
    refine SPO_z (k := 0) rfl rfl (SP1_delG Tryz.underlying242 kU hn2 rfl rfl (by first | exact P0 | exact P1 | exact P2 | exact P3 | exact P4 | exact P5 | exact P6 | exact P7 | exact P8 | exact P9 | exact P10 | exact P11 | exact P12 | exact P13 | exact P14 | exact P15 | exact P16 | exact P17 | exact P18 | exact P19 | exact P20 | exact P21 | exact P22 | exact P23) ?_)
    intro s9 h9
    refine SPO_nil ?_
    refine thenP_n ?_
    refine SP_region ?_
    refine SPL_y (y_move rfl) rfl ?_
    refine SPL_y (y_move rfl) rfl ?_
    refine SPL_y (y_nil rfl) rfl ?_
    refine SPL_y (y_fa fld_245_1 rfl) rfl ?_
    refine SPL_y (y_load Tryz.isAgg241 rfl (by repeat (first | exact Cell.amid hpre rfl | exact Cell.head rfl | apply Cell.tail))) rfl ?_
    refine SPL_y (y_move rfl) rfl ?_
    refine SPL_one rfl (SP1_slice1 el_241 rfl rfl rfl rfl rfl ?_)
    intro b93
    refine SPL_one rfl (SP1_append el_241 (.inl Tryz.underlying241) rfl rfl ha1 (by first | exact P0 | exact P1 | exact P2 | exact P3 | exact P4 | exact P5 | exact P6 | exact P7 | exact P8 | exact P9 | exact P10 | exact P11 | exact P12 | exact P13 | exact P14 | exact P15 | exact P16 | exact P17 | exact P18 | exact P19 | exact P20 | exact P21 | exact P22 | exact P23) (Src.of (by repeat (first | exact Cells.all _ | exact Cells.amid hpre rfl (by decide) | exact Cells.head rfl | apply Cells.tail)) (by rfl)) (by rfl) (by omega) rfl ?_)
    intro aa2 ac2 sa2 ha2
    refine SPL_y (y_nil rfl) rfl ?_
    refine SPL_y (y_fa fld_245_1 rfl) rfl ?_
    refine SPL_one rfl (SP1_storeM (j := 1) Tryz.sizeOf241 rfl rfl rfl hpre (by first | exact U0 | exact U1 | exact U2 | exact U3 | exact U4 | exact U5 | exact U6 | exact U7 | exact U8 | exact U9 | exact U10 | exact U11 | exact U12 | exact U13 | exact U14 | exact U15 | exact U16 | exact U17 | exact U18 | exact U19 | exact U20 | exact U21 | exact U22 | exact U23) (by rfl) ?_)
    simp only [List.set_cons_zero, List.set_cons_succ, List.take_succ_cons, List.take_zero, List.drop_succ_cons, List.drop_zero, List.cons_append, List.nil_append]
    refine SPL_nil ?_
    refine inBlockP_n ?_
    refine thenP_n ?_
    refine SP_region ?_
    refine SPL_y (y_move rfl) rfl ?_
    refine SPL_y (y_add rfl rfl (by omega)) rfl ?_
    refine SPL_y (y_assign rfl) rfl ?_
    refine SPL_nil ?_
    refine thenP_n ?_
    have hgd : t.order.getD p (V.nil, V.nil) = t.order[p] := by rw [List.getD_eq_getElem?_getD, List.getElem?_eq_getElem hp2]; rfl
    have hdel : mdel u.nums (u.order.getD (a.getD (u.arr.length + 1) 0 - 1).toNat (V.nil, V.nil)).1.n = mdel u.nums t.order[p].1.n := by rw [huo, hp, Int.toNat_natCast, hgd]
    rw [hdel] at hm
    obtain ⟨u2, hu2⟩ : ∃ u2 : Tb, ({ u with nums := mdel u.nums t.order[p].1.n, arr := u.arr ++ [a.getD (u.arr.length + 1) 0 - 1] } : Tb) = u2 := ⟨_, rfl⟩
    rw [hu2] at hm
    have q1 : u2.order = t.order := by rw [← hu2]; exact huo
    have q2 : u2.arr = u.arr ++ [a.getD (u.arr.length + 1) 0 - 1] := by rw [← hu2]
    have q3 : u2.nums = mdel u.nums t.order[p].1.n := by rw [← hu2]
    have q4 : u.arr.length + 1 = u2.arr.length := by rw [q2]; simp
    have q5 : (u.arr.length : Int) + 1 = (u2.arr.length : Int) := by omega
    rw [q4, q5]
    exact Again.intro ((kk, u2, aa2, ac2, sa2, s9)) (⟨hm, q1, by dsimp only; omega, by dsimp only; rw [q2, List.map_append, List.length_append]; exact ha2, by dsimp only; rw [q3]; exact h9⟩) (by dsimp only; omega) (by repeat (first | exact Sub.nil _ | refine Sub.cons rfl ?_)) (by repeat (first | exact Part.nil _ | (apply Part.cons; with_reducible (first | exact P0 | exact P1 | exact P2 | exact P3 | exact P4 | exact P5 | exact P6 | exact P7 | exact P8 | exact P9 | exact P10 | exact P11 | exact P12 | exact P13 | exact P14 | exact P15 | exact P16 | exact P17 | exact P18 | exact P19 | exact P20 | exact P21 | exact P22 | exact P23)) | (apply Part.flat; simp only [List.cons_append, List.nil_append]) | (apply Part.cons; (first | exact P0 | exact P1 | exact P2 | exact P3 | exact P4 | exact P5 | exact P6 | exact P7 | exact P8 | exact P9 | exact P10 | exact P11 | exact P12 | exact P13 | exact P14 | exact P15 | exact P16 | exact P17 | exact P18 | exact P19 | exact P20 | exact P21 | exact P22 | exact P23)) | (apply Part.nilc)))
  · intro i0 hi0 s' hI'
    refine SPL_y (y_ext rfl rfl) rfl ?_
    refine SPL_nil ?_
    refine thenP_n ?_
    refine SP_seq ?_
    refine SP_cond_t rfl ?_
    refine SP_skip ?_
    refine thenP_n ?_
    refine SP_block ?_
    refine SP_seq ?_
    refine SP_region ?_
    refine SPL_y (y_entryM hI' rfl (fun p hp => by simp only [List.flatten_cons, List.mem_append]; simp [hp])) rfl ?_
    refine SPL_y (y_ext rfl rfl) rfl ?_
    refine SPL_y (y_ext rfl rfl) rfl ?_
    refine SPL_y (y_assign rfl) rfl ?_
    refine SPL_y (y_assign rfl) rfl ?_
    refine SPL_nil ?_
    refine thenP_n ?_
    refine SP_seq ?_
    have hmem : rest[i0] ∈ t.nums := hpm.mem_iff.1 (List.mem_append_right _ (List.getElem_mem hi0))
    obtain ⟨hk0, hv0, hv1, toI, w, htI⟩ := nums_at hg.1 hmem
    obtain ⟨kn, hkn⟩ : ∃ kn : Nat, rest[i0].1 = kn := ⟨rest[i0].1.toNat, by omega⟩
    rw [hkn]
    have hbd := toInt_bd htI
    have hal2 : a.length = 33 := by rw [had, atF_len]; rfl
    refine SP_region ?_
    refine SPL_y (y_move rfl) rfl ?_
    refine SPL_y (y_nil rfl) rfl ?_
    refine SPL_y (y_fa fld_103_0 rfl) rfl ?_
    refine SPL_y (y_load Tryz.isAgg37 rfl (by repeat (first | exact Cell.amid hpre rfl | exact Cell.head rfl | apply Cell.tail))) rfl ?_
    refine SPL_y (y_move rfl) rfl ?_
    refine SPL_one rfl (SP1_call (num_ToInt nv kn toI w (by rw [hkn] at htI; exact htI)) Tryz.call209 rfl rfl (by repeat (first | exact Part.nil _ | (apply Part.cons; with_reducible (first | exact P0 | exact P1 | exact P2 | exact P3 | exact P4 | exact P5 | exact P6 | exact P7 | exact P8 | exact P9 | exact P10 | exact P11 | exact P12 | exact P13 | exact P14 | exact P15 | exact P16 | exact P17 | exact P18 | exact P19 | exact P20 | exact P21 | exact P22 | exact P23)) | (apply Part.flat; simp only [List.cons_append, List.nil_append]) | (apply Part.cons; (first | exact P0 | exact P1 | exact P2 | exact P3 | exact P4 | exact P5 | exact P6 | exact P7 | exact P8 | exact P9 | exact P10 | exact P11 | exact P12 | exact P13 | exact P14 | exact P15 | exact P16 | exact P17 | exact P18 | exact P19 | exact P20 | exact P21 | exact P22 | exact P23)) | (apply Part.nilc))) ?_)
    rintro v post H' ⟨rfl, rfl⟩ hH
    try simp only [List.cons_append, List.nil_append] at hH
    subst hH
    refine SPL_y (y_move rfl) rfl ?_
    refine SPL_y (y_ext rfl rfl) rfl ?_
    refine SPL_y (y_ext rfl rfl) rfl ?_
    rcases w with _ | _
    · refine SPL_y (y_assign rfl) rfl ?_
      refine SPL_y (y_assign rfl) rfl ?_
      refine SPL_nil ?_
      refine thenP_n ?_
      refine SP_seq ?_
      refine SP_region ?_
      refine SPL_y (y_move rfl) rfl ?_
      refine SPL_y (y_move rfl) rfl ?_
      refine SPL_gn rfl rfl rfl rfl ?_
      refine SPL_gn rfl rfl rfl rfl ?_
      refine SPL_gn rfl rfl rfl rfl ?_
      refine SPL_gn rfl rfl rfl rfl ?_
      refine SPL_gn rfl rfl rfl rfl ?_
      refine SPL_gn rfl rfl rfl rfl ?_
      refine SPL_gn rfl rfl rfl rfl ?_
      refine SPL_y (y_pick_f rfl rfl) rfl ?_
      refine SPL_y (y_move rfl) rfl ?_
      refine SPL_gn rfl rfl rfl rfl ?_
      refine SPL_gn rfl rfl rfl rfl ?_
      refine SPL_y (y_pick_f rfl rfl) rfl ?_
      refine SPL_nil ?_
      refine thenP_n ?_
      refine SP_cond_f rfl ?_
      refine SP_skip ?_
      refine inBlockP_n ?_
      refine thenP_n ?_
      exact Again.intro ((rest.eraseIdx i0, a, some rest[i0], s')) (⟨hI', d ++ [rest[i0]], perm_at hi0 hpm, by rw [List.foldl_append, ← had]; show a = atS t.arr.length a rest[i0]; unfold atS; rw [if_pos (cand_F htI)]⟩) (by dsimp only; rw [List.length_eraseIdx_of_lt hi0]; omega) (by repeat (first | exact Sub.nil _ | refine Sub.cons rfl ?_)) (by repeat (first | exact Part.nil _ | (apply Part.cons; with_reducible (first | exact P0 | exact P1 | exact P2 | exact P3 | exact P4 | exact P5 | exact P6 | exact P7 | exact P8 | exact P9 | exact P10 | exact P11 | exact P12 | exact P13 | exact P14 | exact P15 | exact P16 | exact P17 | exact P18 | exact P19 | exact P20 | exact P21 | exact P22 | exact P23)) | (apply Part.flat; simp only [List.cons_append, List.nil_append]) | (apply Part.cons; (first | exact P0 | exact P1 | exact P2 | exact P3 | exact P4 | exact P5 | exact P6 | exact P7 | exact P8 | exact P9 | exact P10 | exact P11 | exact P12 | exact P13 | exact P14 | exact P15 | exact P16 | exact P17 | exact P18 | exact P19 | exact P20 | exact P21 | exact P22 | exact P23)) | (apply Part.nilc)))
    · refine SPL_y (y_assign rfl) rfl ?_
      refine SPL_y (y_assign rfl) rfl ?_
      refine SPL_nil ?_
      refine thenP_n ?_
      refine SP_seq ?_
      refine SP_region ?_
      refine SPL_y (y_move rfl) rfl ?_
      refine SPL_y (y_move rfl) rfl ?_
      refine SPL_gy rfl rfl ?_
      refine SPL_y (y_move rfl) rfl ?_
      refine SPL_gy rfl rfl ?_
      refine SPL_y (y_move rfl) rfl ?_
      refine SPL_gy rfl rfl ?_
      refine SPL_y (y_nil rfl) rfl ?_
      refine SPL_gy rfl rfl ?_
      refine SPL_y (y_fa fld_245_1 rfl) rfl ?_
      refine SPL_gy rfl rfl ?_
      refine SPL_y (y_load Tryz.isAgg241 rfl (by repeat (first | exact Cell.amid hpre rfl | exact Cell.head rfl | apply Cell.tail))) rfl ?_
      refine SPL_gy rfl rfl ?_
      refine SPL_y (y_len_l Tryz.underlying241 rfl) rfl ?_
      refine SPL_gy rfl rfl ?_
      refine SPL_ifn (y_gtr rfl rfl) rfl ?_ ?_
      · intro h6_8
        refine SPL_y (y_pick_t rfl rfl) rfl ?_
        refine SPL_y (y_move rfl) rfl ?_
        refine SPL_gn rfl rfl rfl rfl ?_
        refine SPL_gn rfl rfl rfl rfl ?_
        refine SPL_y (y_pick_f rfl rfl) rfl ?_
        refine SPL_nil ?_
        refine thenP_n ?_
        refine SP_cond_f rfl ?_
        refine SP_skip ?_
        refine inBlockP_n ?_
        refine thenP_n ?_
        exact Again.intro ((rest.eraseIdx i0, a, some rest[i0], s')) (⟨hI', d ++ [rest[i0]], perm_at hi0 hpm, by rw [List.foldl_append, ← had]; show a = atS t.arr.length a rest[i0]; unfold atS; rw [if_pos (by rw [cand_T htI, if_neg (fun q => h6_8 q.1)])]⟩) (by dsimp only; rw [List.length_eraseIdx_of_lt hi0]; omega) (by repeat (first | exact Sub.nil _ | refine Sub.cons rfl ?_)) (by repeat (first | exact Part.nil _ | (apply Part.cons; with_reducible (first | exact P0 | exact P1 | exact P2 | exact P3 | exact P4 | exact P5 | exact P6 | exact P7 | exact P8 | exact P9 | exact P10 | exact P11 | exact P12 | exact P13 | exact P14 | exact P15 | exact P16 | exact P17 | exact P18 | exact P19 | exact P20 | exact P21 | exact P22 | exact P23)) | (apply Part.flat; simp only [List.cons_append, List.nil_append]) | (apply Part.cons; (first | exact P0 | exact P1 | exact P2 | exact P3 | exact P4 | exact P5 | exact P6 | exact P7 | exact P8 | exact P9 | exact P10 | exact P11 | exact P12 | exact P13 | exact P14 | exact P15 | exact P16 | exact P17 | exact P18 | exact P19 | exact P20 | exact P21 | exact P22 | exact P23)) | (apply Part.nilc)))
      intro h6_8
      refine SPL_y (y_pick_t rfl rfl) rfl ?_
      refine SPL_y (y_move rfl) rfl ?_
      refine SPL_gy rfl rfl ?_
      refine SPL_y (y_move rfl) rfl ?_
      refine SPL_gy rfl rfl ?_
      refine SPL_ifn (y_leq rfl rfl) rfl ?_ ?_
      · intro h6_12
        refine SPL_y (y_pick_t rfl rfl) rfl ?_
        refine SPL_nil ?_
        refine thenP_n ?_
        refine SP_cond_f rfl ?_
        refine SP_skip ?_
        refine inBlockP_n ?_
        refine thenP_n ?_
        exact Again.intro ((rest.eraseIdx i0, a, some rest[i0], s')) (⟨hI', d ++ [rest[i0]], perm_at hi0 hpm, by rw [List.foldl_append, ← had]; show a = atS t.arr.length a rest[i0]; unfold atS; rw [if_pos (by rw [cand_T htI, if_neg (fun q => h6_12 q.2)])]⟩) (by dsimp only; rw [List.length_eraseIdx_of_lt hi0]; omega) (by repeat (first | exact Sub.nil _ | refine Sub.cons rfl ?_)) (by repeat (first | exact Part.nil _ | (apply Part.cons; with_reducible (first | exact P0 | exact P1 | exact P2 | exact P3 | exact P4 | exact P5 | exact P6 | exact P7 | exact P8 | exact P9 | exact P10 | exact P11 | exact P12 | exact P13 | exact P14 | exact P15 | exact P16 | exact P17 | exact P18 | exact P19 | exact P20 | exact P21 | exact P22 | exact P23)) | (apply Part.flat; simp only [List.cons_append, List.nil_append]) | (apply Part.cons; (first | exact P0 | exact P1 | exact P2 | exact P3 | exact P4 | exact P5 | exact P6 | exact P7 | exact P8 | exact P9 | exact P10 | exact P11 | exact P12 | exact P13 | exact P14 | exact P15 | exact P16 | exact P17 | exact P18 | exact P19 | exact P20 | exact P21 | exact P22 | exact P23)) | (apply Part.nilc)))
      intro h6_12
      refine SPL_y (y_pick_t rfl rfl) rfl ?_
      refine SPL_nil ?_
      refine thenP_n ?_
      refine SP_cond_t rfl ?_
      have hc : cand t.arr.length rest[i0].1 = toI := by rw [cand_T htI, if_pos ⟨h6_8, h6_12⟩]
      refine SP_region ?_
      refine SPL_y (y_move rfl) rfl ?_
      refine SPL_y (y_move rfl) rfl ?_
      refine SPL_y (y_addw rfl rfl rfl) rfl ?_
      rw [show IntKind.i32.wrap (rest[i0].2 + 1) = rest[i0].2 + 1 from by rw [IntKind.wrap_i32]; omega]
      refine SPL_y (y_ia_arr Tryz.underlying328 Tryz.sizeOf21 rfl rfl (by omega)) rfl ?_
      refine SPL_one rfl (SP1_storeJ (i := toI) (v := rest[i0].2 + 1) (l := a) Tryz.sizeOf21 rfl rfl rfl (by omega) (by omega) (by first | exact U0 | exact U1 | exact U2 | exact U3 | exact U4 | exact U5 | exact U6 | exact U7 | exact U8 | exact U9 | exact U10 | exact U11 | exact U12 | exact U13 | exact U14 | exact U15 | exact U16 | exact U17 | exact U18 | exact U19 | exact U20 | exact U21 | exact U22 | exact U23) ?_)
      refine SPL_nil ?_
      refine inBlockP_n ?_
      refine thenP_n ?_
      exact Again.intro ((rest.eraseIdx i0, a.set (toI).toNat (rest[i0].2 + 1), some rest[i0], s')) (⟨hI', d ++ [rest[i0]], perm_at hi0 hpm, by rw [List.foldl_append, ← had]; show _ = atS t.arr.length a rest[i0]; unfold atS; rw [hc, if_neg (by omega)]⟩) (by dsimp only; rw [List.length_eraseIdx_of_lt hi0]; omega) (by repeat (first | exact Sub.nil _ | refine Sub.cons rfl ?_)) (by repeat (first | exact Part.nil _ | (apply Part.cons; with_reducible (first | exact P0 | exact P1 | exact P2 | exact P3 | exact P4 | exact P5 | exact P6 | exact P7 | exact P8 | exact P9 | exact P10 | exact P11 | exact P12 | exact P13 | exact P14 | exact P15 | exact P16 | exact P17 | exact P18 | exact P19 | exact P20 | exact P21 | exact P22 | exact P23)) | (apply Part.flat; simp only [List.cons_append, List.nil_append]) | (apply Part.cons; (first | exact P0 | exact P1 | exact P2 | exact P3 | exact P4 | exact P5 | exact P6 | exact P7 | exact P8 | exact P9 | exact P10 | exact P11 | exact P12 | exact P13 | exact P14 | exact P15 | exact P16 | exact P17 | exact P18 | exact P19 | exact P20 | exact P21 | exact P22 | exact P23)) | (apply Part.nilc)))

end Go.Sl
