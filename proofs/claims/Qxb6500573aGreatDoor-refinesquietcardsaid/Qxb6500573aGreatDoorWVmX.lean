/- Walks: package vm, New (made by program out of short notes) -/
import Derived.Test.Qxb6500573aGreatDoorBE
import Derived.Test.Qxb6500573aGreatDoorWVmW
import Derived.Test.Qxb6500573aGreatDoorSlMk
namespace Go.Sl
open Go Go.Wl Go.Proofs
set_option maxRecDepth 100000
set_option linter.unusedVariables false
set_option linter.unusedSimpArgs false
def m00 : VM := ⟨⟨[], [], [], []⟩, ⟨[], [], [], [], 0, [], []⟩, 21⟩
def ph00 : PH := ⟨none, 0, none, 0, none, 0, none, 0⟩
def hh00 : List TH := List.replicate 5 ⟨none, 0, none, 0⟩
theorem rws_rep : ∀ k : Nat, Rws thR ((List.replicate k (⟨0, 0, [], [], []⟩ : Th)).zip (List.replicate k (⟨none, 0, none, 0⟩ : TH))) (List.flatten (List.replicate k [I 0, I 0, .slice none 0 0, .slice none 0 0, .slice none 0 0])) []
  | 0 => Rws.nil
  | k + 1 => ⟨_, [], _, [], rfl, rfl, ⟨none, 0, [], [], [], rfl, rfl, Arr.nil _ _, Arr.nil _ _, Arr.nil _ _⟩, rws_rep k⟩
theorem vm_New (nb tb : Nat) (stb sq : Seg) (ht : isTabs tb nb [] stb) (hq : Go.Wl.isNum nb sq) : Spec Tryz.prog 26 [pt nb, pt tb] [stb, sq] (Ret fun v H => ∃ vb thb seg, v = pt vb ∧ isVM ⟨vb, nb, tb, thb⟩ ph00 hh00 m00 seg ∧ H = [seg]) := by
  refine Spec_enter Tryz.func26 rfl Tryz.ntmps26 rfl ?_
  show SP _ _ _ _ _ [(0, _), (1, _)] _
  refine SP_seq ?_
  refine SP_region ?_
  refine SPL_y (y_assign rfl) rfl ?_
  refine SPL_nil ?_
  refine thenP_n ?_
  refine SP_seq ?_
  refine SP_region ?_
  refine SPL_y (y_move rfl) rfl ?_
  refine SPL_y (y_move rfl) rfl ?_
  refine SPL_one rfl (SP1_make0 (m := 5) el_107 rfl rfl (by decide) (by decide) rfl ?_)
  intro b7
  refine SPL_y (y_build B115 rfl rfl (by simp only [fillL, List.foldl_cons, List.foldl_nil, List.set_cons_zero, List.set_cons_succ]; exact rfl)) rfl ?_
  refine SPL_one rfl (SP1_box rfl rfl rfl ?_)
  intro b9
  refine SPL_y (y_assign rfl) rfl ?_
  refine SPL_nil ?_
  refine thenP_n ?_
  refine SP_ret ?_
  refine bodyP_ret (H' := [List.flatten [blk b9 115 [pt nb, pt tb, .slice none 0 0, .slice none 0 0, .slice none 0 0, .slice none 0 0, .slice none 0 0, .slice none 0 0, .slice none 0 0, .slice (some ⟨b7, 0, none⟩) 0 5, I 0, .slice none 0 0, I 21], [], [], [], [], [], [], [], blk b7 263 (List.flatten (List.replicate 5 [I 0, I 0, .slice none 0 0, .slice none 0 0, .slice none 0 0])), [], [], stb, sq]]) (Res1 rfl rfl) (by repeat (first | exact Part.nil _ | (apply Part.cons; with_reducible (first | exact P0 | exact P1 | exact P2 | exact P3 | exact P4 | exact P5 | exact P6 | exact P7 | exact P8 | exact P9 | exact P10 | exact P11 | exact P12 | exact P13 | exact P14 | exact P15 | exact P16 | exact P17 | exact P18 | exact P19 | exact P20 | exact P21 | exact P22 | exact P23)) | (apply Part.flat; simp only [List.cons_append, List.nil_append]) | (apply Part.cons; (first | exact P0 | exact P1 | exact P2 | exact P3 | exact P4 | exact P5 | exact P6 | exact P7 | exact P8 | exact P9 | exact P10 | exact P11 | exact P12 | exact P13 | exact P14 | exact P15 | exact P16 | exact P17 | exact P18 | exact P19 | exact P20 | exact P21 | exact P22 | exact P23)) | (apply Part.nilc))) ?_
  refine ⟨b9, b7, _, rfl, ⟨⟨none, 0, none, 0, none, 0, none, 0, [], [], [], [], [], [], [], (List.flatten (List.replicate 5 [I 0, I 0, .slice none 0 0, .slice none 0 0, .slice none 0 0])), [], [], stb, sq⟩, rfl, ⟨Arr.nil _ _, Arr.nil _ _, Arr.nil _ _, Arr.nil _ _, Arr.nil _ _, Arr.nil _ _, Arr.nil _ _, ⟨List.replicate 5 ⟨0, 0, [], [], []⟩, rfl, rfl, ?_⟩, Arr.nil _ _, ht, hq⟩⟩, rfl⟩
  exact rws_rep 5

end Go.Sl
