/- Walks: package table, the check: points, unpack (made by program out of short notes) -/
import Derived.Test.Qxb6500573aGreatDoorSlRc
import Derived.Test.Qxb6500573aGreatDoorWNxtB
import Derived.Test.Qxb6500573aGreatDoorTW
import Derived.Test.Qxb6500573aGreatDoorWMig
namespace Go.Sl
open Go Go.Wl Go.Proofs
set_option maxRecDepth 100000
set_option linter.unusedVariables false
set_option linter.unusedSimpArgs false
def blV (s : List Bool) : List Value := s.map Value.bool
theorem bl_cell {s : List Bool} {b : Nat} {T : TypeId} {H : Hp} {p : Nat} {x : Bool} (hp : p < s.length) (hx : s.getD p false = x) : Cell (blk b T (blV s) :: H) b (0 + ((p : Nat) : Int).toNat * 1) (.bool x) := by
  refine Cell.head ?_
  rw [show 0 + ((p : Nat) : Int).toNat * 1 = p by omega]
  unfold blV
  rw [List.getElem?_map, List.getElem?_eq_getElem hp]
  rw [List.getD_eq_getElem?_getD, List.getElem?_eq_getElem hp] at hx
  rw [← hx]
  rfl
section
variable {P : Program} {n : Nat} {Q : Post} {D : Defs} {ρ : Env} {H : Hp} {ty : TypeId} {K : Kont} {d : Nat} {pos : String} {af : Array Edge} {g : Option (Nat × Bool)}
theorem SP1_storeBl {t : TypeId} {x y : Operand} {b : Nat} {i : Nat} {T : TypeId} {v : Bool} {l : List Bool} {H' : Hp} (hz : ∀ w, (sizeOf t).run P w = .ok 1 w) (hx : ev ρ x = some (.pointer (some ⟨b, 0 + ((i : Nat) : Int).toNat * 1, none⟩))) (hy : ev ρ y = some (.bool v)) (hi : i < l.length)
    (hu : Upd H b T (blV l) (blV (l.set i v)) H') (kk : K D ρ H') : SP1 P n { dst := none, op := .store t x y, type := ty, pos := pos, after := af, guard := g } Q K D ρ H := by
  have e : 0 + ((i : Nat) : Int).toNat * 1 = i := by omega
  rw [e] at hx
  refine SP1_store (T := T) (l := blV l) hz hx hy rfl ?_ (ble_of (by unfold blV; simp; omega)) kk
  unfold blV at hu ⊢
  rw [← List.map_set]
  exact hu
theorem y_mapNil {t kt et u : TypeId} {x y : Operand} {b : Nat} (hg : P.eqGuardType P.depth t = false) (ht : P.underlying t = some (.map kt et)) (hx : ev ρ x = some (.map (some b))) (hy : ev ρ y = some (.map none)) : Yo P n (.binOp .eql t x y u) ty ρ H (.bool false) :=
  .mk fun _ _ hf w => by
    have key : ∀ d w, (Op.equalIn (d + 1) t (.map (some b)) (.map none)).run P w = .ok false w := fun d w => by
      simp [Op.equalIn, run_underlying ht]
    have h1 : (Op.equal t (.map (some b)) (.map none)).run P w = .ok false w := key 9999 w
    simp only [runs, execOp, hf.ev hx, hf.ev hy, eqGuard, Sem.run_bind, run_program, Result.andThen_ok, hg, binOp, h1]
    simp [h1]
end
theorem and_low (u : Nat) (h : u < 18446744073709551616) : bitI .and .u64 (u : Nat) 4294967295 = ((u % 4294967296 : Nat) : Int) := by
  unfold bitI
  dsimp only
  have e1 : (BitVec.ofInt IntKind.u64.bits ((u : Nat) : Int)).toNat = u := by
    rw [BitVec.toNat_ofInt]
    show (((u : Nat) : Int) % ((2 ^ 64 : Nat) : Int)).toNat = _
    have : (2 ^ 64 : Nat) = 18446744073709551616 := by decide
    rw [this]
    omega
  have e2 : (BitVec.ofInt IntKind.u64.bits (4294967295 : Int)).toNat = 4294967295 := by
    rw [BitVec.toNat_ofInt]
    show ((4294967295 : Int) % ((2 ^ 64 : Nat) : Int)).toNat = _
    have : (2 ^ 64 : Nat) = 18446744073709551616 := by decide
    rw [this]
    omega
  rw [BitVec.toNat_and, e1, e2]
  have e3 := Nat.and_two_pow_sub_one_eq_mod u 32
  rw [show (2 : Nat) ^ 32 - 1 = 4294967295 from by decide, show (2 : Nat) ^ 32 = 4294967296 from by decide] at e3
  rw [e3, IntKind.wrap_u64]
  omega
theorem tab_unpack (u : Nat) (h : u < 18446744073709551616) : Spec Tryz.prog 233 [.int .u64 (u : Nat)] [] (Ret fun v H => v = .agg (valV ⟨((u / 4294967296 : Nat) : Int), ((u % 4294967296 : Nat) : Int), []⟩).toArray ∧ H = []) := by
  refine Spec_enter Tryz.func233 rfl Tryz.ntmps233 rfl ?_
  show SP _ _ _ _ _ [(0, _)] _
  refine SP_seq ?_
  refine SP_region ?_
  refine SPL_one rfl (SP1_alloc Tryz.zeroValue42 rfl rfl ?_)
  intro b2
  refine SPL_nil ?_
  refine thenP_n ?_
  refine SP_seq ?_
  refine SP_region ?_
  refine SPL_y (y_move rfl) rfl ?_
  refine SPL_y (y_shr (c := ((u / 4294967296 : Nat) : Int)) rfl rfl (by decide) (by show (u : Int).fdiv (2 ^ 32) = _; rw [Int.fdiv_eq_ediv_of_nonneg _ (by decide)]; omega)) rfl ?_
  refine SPL_y (y_conv Tryz.underlying40 Tryz.underlying3 rfl (show IntKind.i64.wrap ((u / 4294967296 : Nat) : Int) = ((u / 4294967296 : Nat) : Int) from by rw [IntKind.wrap_i64]; omega)) rfl ?_
  refine SPL_y (y_move rfl) rfl ?_
  refine SPL_y (y_and (c := ((u % 4294967296 : Nat) : Int)) rfl rfl (and_low u h)) rfl ?_
  refine SPL_y (y_build B42 rfl rfl (by simp only [fillL, List.foldl_cons, List.foldl_nil, List.set_cons_zero, List.set_cons_succ]; exact rfl)) rfl ?_
  refine SPL_one rfl (SP1_storeAll Tryz.sizeOf42 rfl rfl rfl rfl rfl (by first | exact U0 | exact U1 | exact U2 | exact U3 | exact U4 | exact U5 | exact U6 | exact U7 | exact U8 | exact U9 | exact U10 | exact U11 | exact U12 | exact U13 | exact U14 | exact U15 | exact U16 | exact U17 | exact U18 | exact U19 | exact U20 | exact U21 | exact U22 | exact U23) (by rfl) ?_)
  refine SPL_nil ?_
  refine thenP_n ?_
  refine SP_ret ?_
  refine bodyP_ret (H' := []) (ResC rfl rfl Tryz.isAgg42 Tryz.sizeOf42 rfl (by repeat (first | exact Cells.all _ | exact Cells.amid hpre rfl (by decide) | exact Cells.head rfl | apply Cells.tail))) (by repeat (first | exact Part.nil _ | (apply Part.cons; with_reducible (first | exact P0 | exact P1 | exact P2 | exact P3 | exact P4 | exact P5 | exact P6 | exact P7 | exact P8 | exact P9 | exact P10 | exact P11 | exact P12 | exact P13 | exact P14 | exact P15 | exact P16 | exact P17 | exact P18 | exact P19 | exact P20 | exact P21 | exact P22 | exact P23)) | (apply Part.flat; simp only [List.cons_append, List.nil_append]) | (apply Part.cons; (first | exact P0 | exact P1 | exact P2 | exact P3 | exact P4 | exact P5 | exact P6 | exact P7 | exact P8 | exact P9 | exact P10 | exact P11 | exact P12 | exact P13 | exact P14 | exact P15 | exact P16 | exact P17 | exact P18 | exact P19 | exact P20 | exact P21 | exact P22 | exact P23)) | (apply Part.nilc))) ?_
  exact ⟨rfl, rfl⟩

theorem tab_points (tb o : Nat) (pre post : List Value) (hpre : pre.length = o) (t : Tb) (oa : Option Addr) (oc : Nat) (so : Seg) (ho : Arr 257 6 oa t.order.length oc (t.order.flatMap entV) so) (x1 x2 x3 x4 x5 : Value) (sb : Nat) (s : List Bool) (hs : s.length = 32) (hl : t.order.length ≤ 32) (p : Nat) (k : V) (hk : (t.order.map (·.1))[p]? = some k) (hsn : s.getD p false = false) : Spec Tryz.prog 232 [.pointer (some ⟨tb, o, none⟩), .int .i32 (p : Nat), .agg (valV k).toArray, pt sb] [blk tb 245 (pre ++ [.slice oa t.order.length oc, x1, x2, x3, x4, x5] ++ post), so, blk sb 344 (blV s)] (Ret fun v H => v = .bool true ∧ H = [blk tb 245 (pre ++ [.slice oa t.order.length oc, x1, x2, x3, x4, x5] ++ post), so, blk sb 344 (blV (s.set p true))]) := by
  have hp : p < t.order.length := by have := (List.getElem?_eq_some_iff.1 hk).1; simpa using this
  have hk2 : t.order[p].1 = k := by rw [List.getElem?_map, List.getElem?_eq_getElem hp] at hk; injection hk
  obtain ⟨ob, osp, rfl, hoc, hosp, rfl⟩ := ho.row (by omega)
  refine Spec_enter Tryz.func232 rfl Tryz.ntmps232 rfl ?_
  show SP _ _ _ _ _ [(0, _), (1, _), (2, _), (3, _)] _
  refine SP_seq ?_
  refine SP_region ?_
  refine SPL_one rfl (SP1_box rfl rfl rfl ?_)
  intro b6
  refine SPL_y (y_assign rfl) rfl ?_
  refine SPL_nil ?_
  refine thenP_n ?_
  refine SP_seq ?_
  refine SP_seq ?_
  refine SP_region ?_
  refine SPL_y (y_move rfl) rfl ?_
  refine SPL_if (y_lss rfl rfl) rfl ?_ ?_
  · intro h1_1
    refine SPL_y (y_move rfl) rfl ?_
    refine SPL_gn rfl rfl rfl rfl ?_
    refine SPL_gn rfl rfl rfl rfl ?_
    refine SPL_gn rfl rfl rfl rfl ?_
    refine SPL_gn rfl rfl rfl rfl ?_
    refine SPL_gn rfl rfl rfl rfl ?_
    refine SPL_gn rfl rfl rfl rfl ?_
    refine SPL_gn rfl rfl rfl rfl ?_
    refine SPL_gn rfl rfl rfl rfl ?_
    refine SPL_y (y_pick_t rfl rfl) rfl ?_
    refine SPL_y (y_move rfl) rfl ?_
    refine SPL_gn rfl rfl rfl rfl ?_
    refine SPL_gn rfl rfl rfl rfl ?_
    refine SPL_gn rfl rfl rfl rfl ?_
    refine SPL_gn rfl rfl rfl rfl ?_
    refine SPL_gn rfl rfl rfl rfl ?_
    refine SPL_y (y_pick_t rfl rfl) rfl ?_
    refine SPL_nil ?_
    refine thenP_n ?_
    refine SP_cond_t rfl ?_
    refine SP_seq ?_
    refine SP_region ?_
    refine SPL_y (y_assign rfl) rfl ?_
    refine SPL_nil ?_
    refine thenP_n ?_
    refine SP_ret ?_
    refine thenP_ret (bodyP_ret (H' := [blk tb 245 (pre ++ [.slice (some ⟨ob, 0, none⟩) t.order.length oc, x1, x2, x3, x4, x5] ++ post), blk ob 257 (t.order.flatMap entV ++ osp), blk sb 344 (blV s)]) (Res1 rfl rfl) (by repeat (first | exact Part.nil _ | (apply Part.cons; with_reducible (first | exact P0 | exact P1 | exact P2 | exact P3 | exact P4 | exact P5 | exact P6 | exact P7 | exact P8 | exact P9 | exact P10 | exact P11 | exact P12 | exact P13 | exact P14 | exact P15 | exact P16 | exact P17 | exact P18 | exact P19 | exact P20 | exact P21 | exact P22 | exact P23)) | (apply Part.flat; simp only [List.cons_append, List.nil_append]) | (apply Part.cons; (first | exact P0 | exact P1 | exact P2 | exact P3 | exact P4 | exact P5 | exact P6 | exact P7 | exact P8 | exact P9 | exact P10 | exact P11 | exact P12 | exact P13 | exact P14 | exact P15 | exact P16 | exact P17 | exact P18 | exact P19 | exact P20 | exact P21 | exact P22 | exact P23)) | (apply Part.nilc))) ?_)
    first | (exfalso; omega) | (refine ⟨?_, rfl⟩; rw [decide_eq_true hk2])
  intro h1_1
  refine SPL_y (y_move rfl) rfl ?_
  refine SPL_gy rfl rfl ?_
  refine SPL_y (y_move rfl) rfl ?_
  refine SPL_gy rfl rfl ?_
  refine SPL_y (y_conv Tryz.underlying21 Tryz.underlying3 rfl (show IntKind.i64.wrap ((p : Nat) : Int) = ((p : Nat) : Int) from by rw [IntKind.wrap_i64]; omega)) rfl ?_
  refine SPL_gy rfl rfl ?_
  refine SPL_y (y_move rfl) rfl ?_
  refine SPL_gy rfl rfl ?_
  refine SPL_y (y_nil rfl) rfl ?_
  refine SPL_gy rfl rfl ?_
  refine SPL_y (y_fa fld_245_0 rfl) rfl ?_
  refine SPL_gy rfl rfl ?_
  refine SPL_y (y_load Tryz.isAgg240 rfl (by repeat (first | exact Cell.amid hpre rfl | exact Cell.head rfl | apply Cell.tail))) rfl ?_
  refine SPL_gy rfl rfl ?_
  refine SPL_y (y_len_l Tryz.underlying240 rfl) rfl ?_
  refine SPL_gy rfl rfl ?_
  refine SPL_if (y_geq rfl rfl) rfl ?_ ?_
  · intro h1_10
    refine SPL_y (y_pick_f rfl rfl) rfl ?_
    refine SPL_y (y_move rfl) rfl ?_
    refine SPL_gn rfl rfl rfl rfl ?_
    refine SPL_gn rfl rfl rfl rfl ?_
    refine SPL_gn rfl rfl rfl rfl ?_
    refine SPL_gn rfl rfl rfl rfl ?_
    refine SPL_gn rfl rfl rfl rfl ?_
    refine SPL_y (y_pick_t rfl rfl) rfl ?_
    refine SPL_nil ?_
    refine thenP_n ?_
    refine SP_cond_t rfl ?_
    refine SP_seq ?_
    refine SP_region ?_
    refine SPL_y (y_assign rfl) rfl ?_
    refine SPL_nil ?_
    refine thenP_n ?_
    refine SP_ret ?_
    refine thenP_ret (bodyP_ret (H' := [blk tb 245 (pre ++ [.slice (some ⟨ob, 0, none⟩) t.order.length oc, x1, x2, x3, x4, x5] ++ post), blk ob 257 (t.order.flatMap entV ++ osp), blk sb 344 (blV s)]) (Res1 rfl rfl) (by repeat (first | exact Part.nil _ | (apply Part.cons; with_reducible (first | exact P0 | exact P1 | exact P2 | exact P3 | exact P4 | exact P5 | exact P6 | exact P7 | exact P8 | exact P9 | exact P10 | exact P11 | exact P12 | exact P13 | exact P14 | exact P15 | exact P16 | exact P17 | exact P18 | exact P19 | exact P20 | exact P21 | exact P22 | exact P23)) | (apply Part.flat; simp only [List.cons_append, List.nil_append]) | (apply Part.cons; (first | exact P0 | exact P1 | exact P2 | exact P3 | exact P4 | exact P5 | exact P6 | exact P7 | exact P8 | exact P9 | exact P10 | exact P11 | exact P12 | exact P13 | exact P14 | exact P15 | exact P16 | exact P17 | exact P18 | exact P19 | exact P20 | exact P21 | exact P22 | exact P23)) | (apply Part.nilc))) ?_)
    first | (exfalso; omega) | (refine ⟨?_, rfl⟩; rw [decide_eq_true hk2])
  intro h1_10
  refine SPL_y (y_pick_f rfl rfl) rfl ?_
  refine SPL_y (y_move rfl) rfl ?_
  refine SPL_gy rfl rfl ?_
  refine SPL_y (y_move rfl) rfl ?_
  refine SPL_gy rfl rfl ?_
  refine SPL_y (y_move rfl) rfl ?_
  refine SPL_gy rfl rfl ?_
  refine SPL_y (y_nil rfl) rfl ?_
  refine SPL_gy rfl rfl ?_
  refine SPL_y (y_ia_arr Tryz.underlying344 Tryz.sizeOf4 rfl rfl (by omega)) rfl ?_
  refine SPL_gy rfl rfl ?_
  refine SPL_y (y_load Tryz.isAgg4 rfl (by repeat (first | exact (bl_cell (by omega) hsn) | apply Cell.tail))) rfl ?_
  refine SPL_y (y_pick_f rfl rfl) rfl ?_
  refine SPL_nil ?_
  refine thenP_n ?_
  refine SP_cond_f rfl ?_
  refine SP_skip ?_
  refine thenP_n ?_
  refine SP_seq ?_
  refine SP_region ?_
  refine SPL_y (y_move rfl) rfl ?_
  refine SPL_y (y_move rfl) rfl ?_
  refine SPL_y (y_nil rfl) rfl ?_
  refine SPL_y (y_ia_arr Tryz.underlying344 Tryz.sizeOf4 rfl rfl (by omega)) rfl ?_
  refine SPL_one rfl (SP1_storeBl (i := p) (v := true) (l := s) Tryz.sizeOf4 rfl rfl (by omega) (by first | exact U0 | exact U1 | exact U2 | exact U3 | exact U4 | exact U5 | exact U6 | exact U7 | exact U8 | exact U9 | exact U10 | exact U11 | exact U12 | exact U13 | exact U14 | exact U15 | exact U16 | exact U17 | exact U18 | exact U19 | exact U20 | exact U21 | exact U22 | exact U23) ?_)
  refine SPL_nil ?_
  refine thenP_n ?_
  refine SP_seq ?_
  refine SP_draw 999 [(0, 0), (1, 0), (2, 0), (4, 0), (3, 1), (5, 0), (6, 0), (7, 1), (8, 1), (9, 0), (10, 0)] mixed (by kernel_rfl) (fun _ _ _ _ _ h => h) (Part.refl _) ?_
  refine SPO_p rfl (y_move rfl) rfl ?_
  refine SPO_p rfl (y_nil rfl) rfl ?_
  refine SPO_p rfl (y_fa fld_245_0 rfl) rfl ?_
  refine SPO_p rfl (y_move rfl) rfl ?_
  refine SPO_h rfl (y_load Tryz.isAgg240 rfl (by repeat (first | exact Cell.amid hpre rfl | exact Cell.head rfl | apply Cell.tail))) rfl ?_
  refine SPO_p rfl (y_ia Tryz.underlying240 Tryz.sizeOf257 rfl rfl (by omega)) rfl ?_
  refine SPO_p rfl (y_fa fld_257_0 rfl) rfl ?_
  refine SPO_h rfl (y_loads Tryz.isAgg42 Tryz.sizeOf42 rfl rfl (by repeat (first | exact (flat_cellsQ (q := 0) (vs := valV t.order[p].1) entV_len rfl hp rfl) | apply Cells.tail))) rfl ?_
  refine SPO_h rfl (y_loads Tryz.isAgg42 Tryz.sizeOf42 rfl rfl (by repeat (first | exact Cells.all _ | exact Cells.amid hpre rfl (by decide) | exact Cells.head rfl | apply Cells.tail))) rfl ?_
  refine SPO_p rfl (y_veq (a := t.order[p].1) (b := k) rfl rfl) rfl ?_
  refine SPO_p rfl (y_assign rfl) rfl ?_
  refine SPO_nil ?_
  refine thenP_n ?_
  refine SP_ret ?_
  refine bodyP_ret (H' := [blk tb 245 (pre ++ [.slice (some ⟨ob, 0, none⟩) t.order.length oc, x1, x2, x3, x4, x5] ++ post), blk ob 257 (t.order.flatMap entV ++ osp), blk sb 344 (blV (s.set p true))]) (Res1 rfl rfl) (by repeat (first | exact Part.nil _ | (apply Part.cons; with_reducible (first | exact P0 | exact P1 | exact P2 | exact P3 | exact P4 | exact P5 | exact P6 | exact P7 | exact P8 | exact P9 | exact P10 | exact P11 | exact P12 | exact P13 | exact P14 | exact P15 | exact P16 | exact P17 | exact P18 | exact P19 | exact P20 | exact P21 | exact P22 | exact P23)) | (apply Part.flat; simp only [List.cons_append, List.nil_append]) | (apply Part.cons; (first | exact P0 | exact P1 | exact P2 | exact P3 | exact P4 | exact P5 | exact P6 | exact P7 | exact P8 | exact P9 | exact P10 | exact P11 | exact P12 | exact P13 | exact P14 | exact P15 | exact P16 | exact P17 | exact P18 | exact P19 | exact P20 | exact P21 | exact P22 | exact P23)) | (apply Part.nilc))) ?_
  first | (exfalso; omega) | (refine ⟨?_, rfl⟩; rw [decide_eq_true hk2])

end Go.Sl
