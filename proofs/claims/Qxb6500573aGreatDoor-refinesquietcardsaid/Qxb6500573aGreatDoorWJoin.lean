/- Walks: package vm, join (made by program out of short notes) -/
import Derived.Test.Qxb6500573aGreatDoorSlMk
import Derived.Test.Qxb6500573aGreatDoorAK2
namespace Go.Sl
open Go Go.Wl Go.Proofs
set_option maxRecDepth 100000
set_option linter.unusedVariables false
set_option linter.unusedSimpArgs false
theorem takeJ {l : List (List UInt8)} {i : Nat} (hi : i < l.length) : (l.take (i + 1)).flatten = (l.take i).flatten ++ l[i] := by
  rw [List.take_add_one, List.getElem?_eq_getElem hi, List.flatten_append]; simp
theorem takeJ_le (l : List (List UInt8)) (i : Nat) : (l.take i).flatten.length ≤ l.flatten.length := by
  have h : ((l.take i) ++ (l.drop i)).flatten.length = l.flatten.length := by rw [List.take_append_drop]
  rw [List.flatten_append, List.length_append] at h
  omega
theorem str_cell {l : List (List UInt8)} {sp : List Value} {b i : Nat} {T : TypeId} {H : Hp} {j : Int} (hj : j = i) (hi : i < l.length) : Cell (blk b T (l.map S ++ sp) :: H) b (0 + j.toNat * 1) (S l[i]) := by
  refine Cell.head ?_
  rw [show 0 + j.toNat * 1 = i by omega, List.getElem?_append_left (by simpa using hi), List.getElem?_map, List.getElem?_eq_getElem hi]
  rfl
theorem vm_join (a : Option Addr) (c : Nat) (l : List (List UInt8)) (sa : Seg) (ha : Arr 9 1 a l.length c (l.map S) sa) (hl : l.length ≤ 1000) (h0 : 0 < l.flatten.length) (h1 : l.flatten.length ≤ 1000000) : Spec Tryz.prog 312 [.slice a l.length c] [sa] (Ret fun v H => v = S l.flatten ∧ H = [sa]) := by
  have hll : 0 < l.length := by
    cases l with
    | nil => simp at h0
    | cons x l => simp
  obtain ⟨q, sp, rfl, hc0, hsp, rfl⟩ := ha.row (by omega)
  refine Spec_enter Tryz.func312 rfl Tryz.ntmps312 rfl ?_
  show SP _ _ _ _ _ [(0, _)] _
  refine SP_seq ?_
  refine SP_region ?_
  refine SPL_y (y_assign rfl) rfl ?_
  refine SPL_nil ?_
  refine thenP_n ?_
  refine SP_seq ?_
  refine SP_region ?_
  refine SPL_y (y_assign rfl) rfl ?_
  refine SPL_nil ?_
  refine thenP_n ?_
  refine SP_seq ?_
  refine SP_seq ?_
  refine SP_region ?_
  refine SPL_y (y_move rfl) rfl ?_
  refine SPL_y (y_len_l Tryz.underlying88 rfl) rfl ?_
  refine SPL_y (y_move rfl) rfl ?_
  refine SPL_nil ?_
  refine thenP_n ?_
  refine SP_block ?_
  refine SP_loop (G := Nat × Int) (fun g => l.length - g.1) (fun g => [(0, .slice (some ⟨q, 0, none⟩) l.length c), (3, I g.2), (9, .slice (some ⟨q, 0, none⟩) l.length c), (10, I l.length), (11, I g.1)]) (fun g => [blk q 9 (l.map S ++ sp)]) (fun g => g.1 ≤ l.length ∧ g.2 = (l.take g.1).flatten.length) ((0, 0)) (⟨Nat.zero_le _, rfl⟩) (by repeat (first | exact Sub.nil _ | refine Sub.cons rfl ?_)) (by repeat (first | exact Part.nil _ | (apply Part.cons; with_reducible (first | exact P0 | exact P1 | exact P2 | exact P3 | exact P4 | exact P5 | exact P6 | exact P7 | exact P8 | exact P9 | exact P10 | exact P11 | exact P12 | exact P13 | exact P14 | exact P15 | exact P16 | exact P17 | exact P18 | exact P19 | exact P20 | exact P21 | exact P22 | exact P23)) | (apply Part.flat; simp only [List.cons_append, List.nil_append]) | (apply Part.cons; (first | exact P0 | exact P1 | exact P2 | exact P3 | exact P4 | exact P5 | exact P6 | exact P7 | exact P8 | exact P9 | exact P10 | exact P11 | exact P12 | exact P13 | exact P14 | exact P15 | exact P16 | exact P17 | exact P18 | exact P19 | exact P20 | exact P21 | exact P22 | exact P23)) | (apply Part.nilc))) ?_
  rintro ⟨i, n⟩ ⟨hi, hn⟩
  dsimp only at hi hn ⊢
  subst hn
  have hle := takeJ_le l i
  refine SP_seq ?_
  refine SP_region ?_
  refine SPL_if (y_lss rfl rfl) rfl ?_ ?_
  · intro h3_0
    refine SPL_nil ?_
    refine thenP_n ?_
    refine SP_seq ?_
    refine SP_cond_t rfl ?_
    refine SP_skip ?_
    refine thenP_n ?_
    refine SP_seq ?_
    refine SP_block ?_
    refine SP_seq ?_
    have hi2 : i < l.length := by omega
    have hle2 := takeJ_le l (i + 1)
    rw [takeJ hi2, List.length_append] at hle2
    refine SP_region ?_
    refine SPL_y (y_ia (m := l.length) Tryz.underlying88 Tryz.sizeOf9 rfl rfl (by omega)) rfl ?_
    refine SPL_y (y_load Tryz.isAgg9 rfl (by repeat (first | exact str_cell rfl hi2 | apply Cell.tail))) rfl ?_
    refine SPL_y (y_assign rfl) rfl ?_
    refine SPL_nil ?_
    refine thenP_n ?_
    refine SP_region ?_
    refine SPL_y (y_move rfl) rfl ?_
    refine SPL_y (y_move rfl) rfl ?_
    refine SPL_y (y_len_s Tryz.underlying9 rfl) rfl ?_
    refine SPL_y (y_add rfl rfl (by omega)) rfl ?_
    refine SPL_y (y_assign rfl) rfl ?_
    refine SPL_nil ?_
    refine inBlockP_n ?_
    refine thenP_n ?_
    refine SP_region ?_
    refine SPL_y (y_add rfl rfl (by omega)) rfl ?_
    refine SPL_y (y_move rfl) rfl ?_
    refine SPL_nil ?_
    refine thenP_n ?_
    exact Again.intro ((i + 1, ((l.take i).flatten.length : Int) + (l[i].length : Int))) (⟨by dsimp only; omega, by dsimp only; rw [takeJ hi2, List.length_append, Int.natCast_add]⟩) (by dsimp only; omega) (by repeat (first | exact Sub.nil _ | refine Sub.cons rfl ?_)) (by repeat (first | exact Part.nil _ | (apply Part.cons; with_reducible (first | exact P0 | exact P1 | exact P2 | exact P3 | exact P4 | exact P5 | exact P6 | exact P7 | exact P8 | exact P9 | exact P10 | exact P11 | exact P12 | exact P13 | exact P14 | exact P15 | exact P16 | exact P17 | exact P18 | exact P19 | exact P20 | exact P21 | exact P22 | exact P23)) | (apply Part.flat; simp only [List.cons_append, List.nil_append]) | (apply Part.cons; (first | exact P0 | exact P1 | exact P2 | exact P3 | exact P4 | exact P5 | exact P6 | exact P7 | exact P8 | exact P9 | exact P10 | exact P11 | exact P12 | exact P13 | exact P14 | exact P15 | exact P16 | exact P17 | exact P18 | exact P19 | exact P20 | exact P21 | exact P22 | exact P23)) | (apply Part.nilc)))
  intro h3_0
  refine SPL_nil ?_
  refine thenP_n ?_
  refine SP_seq ?_
  refine SP_cond_f rfl ?_
  refine SP_exit ?_
  refine thenP_exit ?_
  refine thenP_exit ?_
  refine inBlockP_hit ?_
  refine thenP_n ?_
  refine SP_seq ?_
  have hil : i = l.length := by omega
  subst hil
  rw [List.take_length]
  refine SP_region ?_
  refine SPL_y (y_move rfl) rfl ?_
  refine SPL_one rfl (SP1_make0 (m := l.flatten.length) el_67 rfl rfl (by omega) (by omega) rfl ?_)
  intro b21
  have hA0 : Arr 5 1 (some ⟨b21, 0, none⟩) 0 l.flatten.length [] (blk b21 5 (List.replicate l.flatten.length [u8V 0]).flatten) := Arr.mk (xs := []) rfl (Nat.zero_le _) (by simp)
  refine SPL_y (y_assign rfl) rfl ?_
  refine SPL_nil ?_
  refine thenP_n ?_
  refine SP_seq ?_
  refine SP_seq ?_
  refine SP_region ?_
  refine SPL_y (y_move rfl) rfl ?_
  refine SPL_y (y_len_l Tryz.underlying88 rfl) rfl ?_
  refine SPL_y (y_move rfl) rfl ?_
  refine SPL_nil ?_
  refine thenP_n ?_
  refine SP_block ?_
  refine SP_loop (G := Nat × Option Addr × Nat × Seg) (fun g => l.length - g.1) (fun g => [(0, .slice (some ⟨q, 0, none⟩) l.length c), (6, .slice g.2.1 (l.take g.1).flatten.length g.2.2.1), (22, .slice (some ⟨q, 0, none⟩) l.length c), (23, I l.length), (24, I g.1)]) (fun g => [blk q 9 (l.map S ++ sp), g.2.2.2]) (fun g => g.1 ≤ l.length ∧ Arr 5 1 g.2.1 (l.take g.1).flatten.length g.2.2.1 (bytesV (l.take g.1).flatten) g.2.2.2) ((0, some ⟨b21, 0, none⟩, l.flatten.length, blk b21 5 (List.replicate l.flatten.length [u8V 0]).flatten)) (⟨Nat.zero_le _, hA0⟩) (by repeat (first | exact Sub.nil _ | refine Sub.cons rfl ?_)) (by repeat (first | exact Part.nil _ | (apply Part.cons; with_reducible (first | exact P0 | exact P1 | exact P2 | exact P3 | exact P4 | exact P5 | exact P6 | exact P7 | exact P8 | exact P9 | exact P10 | exact P11 | exact P12 | exact P13 | exact P14 | exact P15 | exact P16 | exact P17 | exact P18 | exact P19 | exact P20 | exact P21 | exact P22 | exact P23)) | (apply Part.flat; simp only [List.cons_append, List.nil_append]) | (apply Part.cons; (first | exact P0 | exact P1 | exact P2 | exact P3 | exact P4 | exact P5 | exact P6 | exact P7 | exact P8 | exact P9 | exact P10 | exact P11 | exact P12 | exact P13 | exact P14 | exact P15 | exact P16 | exact P17 | exact P18 | exact P19 | exact P20 | exact P21 | exact P22 | exact P23)) | (apply Part.nilc))) ?_
  rintro ⟨i, ba, bc, sb⟩ ⟨hi, hA⟩
  dsimp only at hi hA ⊢
  have hle := takeJ_le l i
  refine SP_seq ?_
  refine SP_region ?_
  refine SPL_ifn (y_lss rfl rfl) rfl ?_ ?_
  · intro h9_0
    refine SPL_nil ?_
    refine thenP_n ?_
    refine SP_seq ?_
    refine SP_cond_f rfl ?_
    refine SP_exit ?_
    refine thenP_exit ?_
    refine thenP_exit ?_
    refine inBlockP_hit ?_
    refine thenP_n ?_
    refine SP_seq ?_
    have hil : i = l.length := by omega
    subst hil
    rw [List.take_length] at hA ⊢
    obtain ⟨q2, sp2, rfl, hc2, hsp2, rfl⟩ := hA.row h0
    refine SP_region ?_
    refine SPL_y (y_move rfl) rfl ?_
    refine SPL_y (y_b2s Tryz.underlying67 Tryz.underlying5 Tryz.underlying9 rfl (l := l.flatten) (by repeat (first | exact (Cells.head (by simp)) | apply Cells.tail)) rfl) rfl ?_
    refine SPL_y (y_assign rfl) rfl ?_
    refine SPL_nil ?_
    refine thenP_n ?_
    refine SP_ret ?_
    refine bodyP_ret (H' := [blk q 9 (l.map S ++ sp)]) (Res1 rfl rfl) (by repeat (first | exact Part.nil _ | (apply Part.cons; with_reducible (first | exact P0 | exact P1 | exact P2 | exact P3 | exact P4 | exact P5 | exact P6 | exact P7 | exact P8 | exact P9 | exact P10 | exact P11 | exact P12 | exact P13 | exact P14 | exact P15 | exact P16 | exact P17 | exact P18 | exact P19 | exact P20 | exact P21 | exact P22 | exact P23)) | (apply Part.flat; simp only [List.cons_append, List.nil_append]) | (apply Part.cons; (first | exact P0 | exact P1 | exact P2 | exact P3 | exact P4 | exact P5 | exact P6 | exact P7 | exact P8 | exact P9 | exact P10 | exact P11 | exact P12 | exact P13 | exact P14 | exact P15 | exact P16 | exact P17 | exact P18 | exact P19 | exact P20 | exact P21 | exact P22 | exact P23)) | (apply Part.nilc))) ?_
    exact ⟨rfl, rfl⟩
  intro h9_0
  refine SPL_nil ?_
  refine thenP_n ?_
  refine SP_seq ?_
  refine SP_cond_t rfl ?_
  refine SP_skip ?_
  refine thenP_n ?_
  refine SP_seq ?_
  refine SP_block ?_
  refine SP_seq ?_
  have hi2 : i < l.length := by omega
  refine SP_region ?_
  refine SPL_y (y_ia (m := l.length) Tryz.underlying88 Tryz.sizeOf9 rfl rfl (by omega)) rfl ?_
  refine SPL_y (y_load Tryz.isAgg9 rfl (by repeat (first | exact str_cell rfl hi2 | apply Cell.tail))) rfl ?_
  refine SPL_y (y_assign rfl) rfl ?_
  refine SPL_nil ?_
  refine thenP_n ?_
  refine SP_region ?_
  refine SPL_y (y_move rfl) rfl ?_
  refine SPL_y (y_move rfl) rfl ?_
  refine SPL_one rfl (SP1_append el_67 (.inr Tryz.underlying9) rfl rfl hA (by first | exact P0 | exact P1 | exact P2 | exact P3 | exact P4 | exact P5 | exact P6 | exact P7 | exact P8 | exact P9 | exact P10 | exact P11 | exact P12 | exact P13 | exact P14 | exact P15 | exact P16 | exact P17 | exact P18 | exact P19 | exact P20 | exact P21 | exact P22 | exact P23) Src.str (by simp [bytesV, Value.oneCell']) (by have := takeJ_le l (i + 1); rw [takeJ hi2, List.length_append] at this; omega) rfl ?_)
  intro ba1 bc1 sb1 hA1
  refine SPL_y (y_assign rfl) rfl ?_
  refine SPL_nil ?_
  refine inBlockP_n ?_
  refine thenP_n ?_
  refine SP_region ?_
  refine SPL_y (y_add rfl rfl (by omega)) rfl ?_
  refine SPL_y (y_move rfl) rfl ?_
  refine SPL_nil ?_
  refine thenP_n ?_
  rw [show (l.take i).flatten.length + l[i].length = (l.take (i + 1)).flatten.length from by rw [takeJ hi2, List.length_append]] at hA1 ⊢
  exact Again.intro ((i + 1, ba1, bc1, sb1)) (⟨by dsimp only; omega, by dsimp only; rw [show (l.take (i + 1)).flatten = _ from takeJ hi2, show bytesV ((l.take i).flatten ++ l[i]) = bytesV (l.take i).flatten ++ bytesV l[i] from by simp [bytesV], ← show (l.take (i + 1)).flatten = _ from takeJ hi2]; exact hA1⟩) (by dsimp only; omega) (by repeat (first | exact Sub.nil _ | refine Sub.cons rfl ?_)) (by repeat (first | exact Part.nil _ | (apply Part.cons; with_reducible (first | exact P0 | exact P1 | exact P2 | exact P3 | exact P4 | exact P5 | exact P6 | exact P7 | exact P8 | exact P9 | exact P10 | exact P11 | exact P12 | exact P13 | exact P14 | exact P15 | exact P16 | exact P17 | exact P18 | exact P19 | exact P20 | exact P21 | exact P22 | exact P23)) | (apply Part.flat; simp only [List.cons_append, List.nil_append]) | (apply Part.cons; (first | exact P0 | exact P1 | exact P2 | exact P3 | exact P4 | exact P5 | exact P6 | exact P7 | exact P8 | exact P9 | exact P10 | exact P11 | exact P12 | exact P13 | exact P14 | exact P15 | exact P16 | exact P17 | exact P18 | exact P19 | exact P20 | exact P21 | exact P22 | exact P23)) | (apply Part.nilc)))

end Go.Sl
