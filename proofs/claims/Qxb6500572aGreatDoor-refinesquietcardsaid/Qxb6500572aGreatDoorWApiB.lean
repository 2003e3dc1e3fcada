/- Walks: package api, Vals (made by program out of short notes) -/
import Derived.Test.Qxb6500572aGreatDoorWApi
namespace Go.Sl
open Go Go.Wl Go.Proofs
set_option maxRecDepth 100000
set_option linter.unusedVariables false
set_option linter.unusedSimpArgs false
def valV (x : Val) : List Value := [.int .u8 x.t.toNat, I x.v]
theorem valV_len (x : Val) : (valV x).length = 2 := rfl
def valsK (l : List Val) (k : Nat) : List UInt8 := (l.take k).flatMap fun x => [x.t] ++ numS x.v
theorem valsK_succ {l : List Val} {k : Nat} (h : k < l.length) : valsK l (k + 1) = valsK l k ++ ([l[k].t] ++ numS l[k].v) := by
  unfold valsK; rw [List.take_succ_eq_append_getElem h, List.flatMap_append]; simp

theorem api_Vals (s : List UInt8) (va : Option Addr) (vc : Nat) (l : List Val) (sv : Seg) (ha : Arr 110 2 va l.length vc (l.flatMap valV) sv) (hs : s.length ≤ 1000000) (hll : l.length ≤ 1000000) (hr : ∀ x, x ∈ l → -9223372036854775808 ≤ x.v ∧ x.v ≤ 9223372036854775807) : Spec Tryz.prog 60 [S s, .slice va l.length vc] [sv] (Ret fun v H => v = S (s ++ valsS l) ∧ H = [sv]) := by
  refine Spec_enter Tryz.func60 rfl Tryz.ntmps60 rfl ?_
  show SP _ _ _ _ _ [(0, _), (1, _)] _
  refine SP_seq ?_
  refine SP_region ?_
  refine SPL_y (y_assign rfl) rfl ?_
  refine SPL_nil ?_
  refine thenP_n ?_
  refine SP_seq ?_
  refine SP_seq ?_
  refine SP_region ?_
  refine SPL_y (y_assign rfl) rfl ?_
  refine SPL_nil ?_
  refine thenP_n ?_
  refine SP_block ?_
  refine SP_loop (G := Nat × List UInt8) (fun g => 4 - g.1) (fun g => [(0, S g.2), (1, .slice va l.length vc), (5, I g.1)]) (fun g => [sv]) (fun g => g.1 ≤ 4 ∧ g.1 ≤ l.length ∧ g.2 = s ++ valsK l g.1 ∧ g.2.length ≤ s.length + 23 * g.1) ((0, s)) (⟨Nat.zero_le _, Nat.zero_le _, by simp [valsK], by simp⟩) (by repeat (first | exact Sub.nil _ | refine Sub.cons rfl ?_)) (by repeat (first | exact Part.nil _ | (apply Part.cons; (first | exact P0 | exact P1 | exact P2 | exact P3 | exact P4 | exact P5 | exact P6 | exact P7 | exact P8 | exact P9 | exact P10 | exact P11 | exact P12 | exact P13 | exact P14 | exact P15 | exact P16 | exact P17 | exact P18 | exact P19 | exact P20 | exact P21 | exact P22 | exact P23)) | (apply Part.flat; simp only [List.cons_append, List.nil_append]) | (apply Part.nilc))) ?_
  rintro ⟨j, x⟩ ⟨hj4, hjl, hx, hxl⟩
  dsimp only at hj4 hjl hx hxl ⊢
  refine SP_seq ?_
  refine SP_seq ?_
  refine SP_region ?_
  refine SPL_y (y_move rfl) rfl ?_
  refine SPL_y (y_move rfl) rfl ?_
  refine SPL_y (y_len_l Tryz.underlying35 rfl) rfl ?_
  refine SPL_ifn (y_lss rfl rfl) rfl ?_ ?_
  · intro h2_3
    refine SPL_y (y_move rfl) rfl ?_
    refine SPL_gn rfl rfl rfl rfl ?_
    refine SPL_gn rfl rfl rfl rfl ?_
    refine SPL_y (y_pick_f rfl rfl) rfl ?_
    refine SPL_nil ?_
    refine thenP_n ?_
    refine SP_cond_f rfl ?_
    refine SP_exit ?_
    refine thenP_exit ?_
    refine thenP_exit ?_
    refine inBlockP_hit ?_
    refine thenP_n ?_
    refine SP_seq ?_
    refine SP_region ?_
    refine SPL_y (y_move rfl) rfl ?_
    refine SPL_y (y_assign rfl) rfl ?_
    refine SPL_nil ?_
    refine thenP_n ?_
    refine SP_ret ?_
    refine bodyP_ret (H' := [sv]) (Res1 rfl rfl) (by repeat (first | exact Part.nil _ | (apply Part.cons; (first | exact P0 | exact P1 | exact P2 | exact P3 | exact P4 | exact P5 | exact P6 | exact P7 | exact P8 | exact P9 | exact P10 | exact P11 | exact P12 | exact P13 | exact P14 | exact P15 | exact P16 | exact P17 | exact P18 | exact P19 | exact P20 | exact P21 | exact P22 | exact P23)) | (apply Part.flat; simp only [List.cons_append, List.nil_append]) | (apply Part.nilc))) ?_
    refine ⟨?_, rfl⟩
    rw [hx, show valsS l = valsK l j from by unfold valsS valsK; rw [List.take_of_length_le (by omega), List.take_of_length_le (by omega)]]
  intro h2_3
  refine SPL_y (y_move rfl) rfl ?_
  refine SPL_gy rfl rfl ?_
  refine SPL_y (y_move rfl) rfl ?_
  refine SPL_gy rfl rfl ?_
  refine SPL_ifn (y_leq rfl rfl) rfl ?_ ?_
  · intro h2_6
    refine SPL_y (y_pick_t rfl rfl) rfl ?_
    refine SPL_nil ?_
    refine thenP_n ?_
    refine SP_cond_f rfl ?_
    refine SP_exit ?_
    refine thenP_exit ?_
    refine thenP_exit ?_
    refine inBlockP_hit ?_
    refine thenP_n ?_
    refine SP_seq ?_
    refine SP_region ?_
    refine SPL_y (y_move rfl) rfl ?_
    refine SPL_y (y_assign rfl) rfl ?_
    refine SPL_nil ?_
    refine thenP_n ?_
    refine SP_ret ?_
    refine bodyP_ret (H' := [sv]) (Res1 rfl rfl) (by repeat (first | exact Part.nil _ | (apply Part.cons; (first | exact P0 | exact P1 | exact P2 | exact P3 | exact P4 | exact P5 | exact P6 | exact P7 | exact P8 | exact P9 | exact P10 | exact P11 | exact P12 | exact P13 | exact P14 | exact P15 | exact P16 | exact P17 | exact P18 | exact P19 | exact P20 | exact P21 | exact P22 | exact P23)) | (apply Part.flat; simp only [List.cons_append, List.nil_append]) | (apply Part.nilc))) ?_
    refine ⟨?_, rfl⟩
    obtain rfl : j = 4 := by omega
    rw [hx]; rfl
  intro h2_6
  refine SPL_y (y_pick_t rfl rfl) rfl ?_
  refine SPL_nil ?_
  refine thenP_n ?_
  refine SP_cond_t rfl ?_
  refine SP_skip ?_
  refine thenP_n ?_
  refine SP_seq ?_
  refine SP_block ?_
  refine SP_seq ?_
  have hjn : j < l.length := by omega
  obtain ⟨bv, spv, rfl, hvc, hspv, rfl⟩ := ha.row (by omega)
  have hrr := hr l[j] (List.getElem_mem hjn)
  refine SP_region ?_
  refine SPL_y (y_move rfl) rfl ?_
  refine SPL_y (y_move rfl) rfl ?_
  refine SPL_y (y_move rfl) rfl ?_
  refine SPL_y (y_ia Tryz.underlying35 Tryz.sizeOf110 rfl rfl (by omega)) rfl ?_
  refine SPL_y (y_fa fld_110_0 rfl) rfl ?_
  refine SPL_y (y_load Tryz.isAgg5 rfl (by repeat (first | exact Cell.elem (q := 0) valV_len (i := j) rfl hjn rfl | apply Cell.tail))) rfl ?_
  refine SPL_one rfl (SP1_slice1 el_144 rfl rfl rfl rfl rfl ?_)
  intro b22
  refine SPL_y (y_b2s Tryz.underlying144 Tryz.underlying5 Tryz.underlying9 rfl (l := [l[j].t]) (by repeat (first | exact Cells.head rfl | apply Cells.tail)) rfl) rfl ?_
  refine SPL_y (y_cat rfl rfl (by first | omega | (simp; omega))) rfl ?_
  refine SPL_y (y_assign rfl) rfl ?_
  refine SPL_nil ?_
  refine thenP_n ?_
  refine SP_region ?_
  refine SPL_y (y_move rfl) rfl ?_
  refine SPL_y (y_move rfl) rfl ?_
  refine SPL_y (y_move rfl) rfl ?_
  refine SPL_y (y_ia Tryz.underlying35 Tryz.sizeOf110 rfl rfl (by omega)) rfl ?_
  refine SPL_y (y_fa fld_110_1 rfl) rfl ?_
  refine SPL_y (y_load Tryz.isAgg3 rfl (by repeat (first | exact Cell.elem (q := 1) valV_len (i := j) rfl hjn rfl | apply Cell.tail))) rfl ?_
  refine SPL_one rfl (SP1_call (api_Num (x ++ [l[j].t]) l[j].v (by simp; omega) hrr.1 hrr.2) Tryz.call41 rfl rfl (by repeat (first | exact Part.nil _ | (apply Part.cons; (first | exact P0 | exact P1 | exact P2 | exact P3 | exact P4 | exact P5 | exact P6 | exact P7 | exact P8 | exact P9 | exact P10 | exact P11 | exact P12 | exact P13 | exact P14 | exact P15 | exact P16 | exact P17 | exact P18 | exact P19 | exact P20 | exact P21 | exact P22 | exact P23)) | (apply Part.flat; simp only [List.cons_append, List.nil_append]) | (apply Part.nilc))) ?_)
  rintro v post H' ⟨rfl, rfl⟩ hH
  try simp only [List.cons_append, List.nil_append] at hH
  subst hH
  refine SPL_y (y_assign rfl) rfl ?_
  refine SPL_nil ?_
  refine inBlockP_n ?_
  refine thenP_n ?_
  refine SP_region ?_
  refine SPL_y (y_move rfl) rfl ?_
  refine SPL_y (y_add rfl rfl (by omega)) rfl ?_
  refine SPL_y (y_assign rfl) rfl ?_
  refine SPL_nil ?_
  refine thenP_n ?_
  exact Again.intro ((j + 1, num (x ++ [l[j].t]) l[j].v)) (⟨by dsimp only; omega, by dsimp only; omega, by dsimp only; rw [hx, valsK_succ hjn]; simp [num], by dsimp only; have := num_len (x ++ [l[j].t]) l[j].v; simp at this; omega⟩) (by simp only []; omega) (by repeat (first | exact Sub.nil _ | refine Sub.cons rfl ?_)) (by repeat (first | exact Part.nil _ | (apply Part.cons; (first | exact P0 | exact P1 | exact P2 | exact P3 | exact P4 | exact P5 | exact P6 | exact P7 | exact P8 | exact P9 | exact P10 | exact P11 | exact P12 | exact P13 | exact P14 | exact P15 | exact P16 | exact P17 | exact P18 | exact P19 | exact P20 | exact P21 | exact P22 | exact P23)) | (apply Part.flat; simp only [List.cons_append, List.nil_append]) | (apply Part.nilc)))

end Go.Sl
