/- Walks: package prep, the checker made (made by program out of short notes) -/
import Derived.Test.Qxb6500572aGreatDoorWPrepI
import Derived.Test.Qxb6500572aGreatDoorSlO
namespace Go.Sl
open Go Go.Wl Go.Proofs
set_option maxRecDepth 100000
set_option linter.unusedVariables false
set_option linter.unusedSimpArgs false
theorem prep_newChecker (pb bf fi : Nat) (P : Prog) (steps : Int) (sp : Seg) (u : Fun) (hp : isProg pb (some ⟨bf, 0, none⟩) P steps sp) (hpz : ∀ f, f ∈ P.funs → f.params.length ≤ 100 ∧ f.results.length ≤ 100 ∧ f.locals.length ≤ 100) (hfi : P.funs[fi]? = some u) : Spec Tryz.prog 78 [(.pointer (some ⟨pb, 0, none⟩)), (.pointer (some ⟨bf, 0 + ((fi : Nat) : Int).toNat * 4, none⟩))] [sp] (Ret fun v H => ∃ k kb ub mb oa s, v = .pointer (some ⟨k, 0, none⟩) ∧ H = [s, sp] ++ isOn k bf fi mb kb ub ∧ isChk k (.pointer (some ⟨pb, 0, none⟩)) (.pointer (some ⟨bf, 0 + ((fi : Nat) : Int).toNat * 4, none⟩)) (.map (some mb)) oa (Chk.start u) s) := by
  obtain ⟨fc, sf, sc, fcs, rfl, hfr, hfs⟩ := hp
  refine Spec_openAt [_, _, _] (by first | exact P0 | exact P1 | exact P2 | exact P3 | exact P4 | exact P5 | exact P6 | exact P7 | exact P8 | exact P9 | exact P10 | exact P11 | exact P12 | exact P13 | exact P14 | exact P15 | exact P16 | exact P17 | exact P18 | exact P19 | exact P20 | exact P21 | exact P22 | exact P23) ?_
  simp only [List.cons_append, List.nil_append]
  have hfil := (List.getElem?_eq_some_iff.1 hfi).1
  obtain ⟨bf', spf, hbf, hfc, hspf, rfl⟩ := hfr.row (by omega)
  obtain rfl : bf = bf' := by simpa using hbf
  obtain ⟨fl, fka, fkc, fr, f1, fsv, f2, rfl, hfl, rfl, hfk, hfput⟩ := hfs.get (i := fi) hfil
  obtain ⟨f, hf⟩ : ∃ f, P.funs[fi] = f := ⟨_, rfl⟩
  have hfz := hpz f (by rw [← hf]; exact List.getElem_mem _)
  rw [hf] at hfr hfk hfput hfs
  simp only [hf]
  obtain rfl : f = u := by rw [List.getElem?_eq_getElem hfil, hf] at hfi; simpa using hfi
  refine Spec_enter Tryz.func78 rfl Tryz.ntmps78 rfl ?_
  show SP _ _ _ _ _ [(0, _), (1, _)] _
  refine SP_seq ?_
  refine SP_region ?_
  refine SPL_one rfl (SP1_box rfl rfl rfl ?_)
  intro b3
  refine SPL_y (y_assign rfl) rfl ?_
  refine SPL_nil ?_
  refine thenP_n ?_
  refine SP_seq ?_
  refine SP_drawG 13 mixed (Part.refl _) ?_
  refine SPG_pre (fuel' := 5) [(0, 0), (1, 1), (2, 1), (3, 0), (4, 0), (5, 1), (6, 1), (7, 0), (8, 0), (9, 1), (10, 0)] (by kernel_rfl) (fun _ _ _ _ _ h => h) ?_
  refine SPP_p rfl (y_move rfl) rfl ?_
  refine SPP_h rfl (y_load Tryz.isAgg105 rfl (by repeat (first | exact Cell.head rfl | apply Cell.tail))) rfl ?_
  refine SPP_h rfl (y_load Tryz.isAgg105 rfl (by repeat (first | exact Cell.head rfl | apply Cell.tail))) rfl ?_
  refine SPP_p rfl (y_nil rfl) rfl ?_
  refine SPP_p rfl (y_fa fld_108_1 rfl) rfl ?_
  refine SPP_h rfl (y_load Tryz.isAgg9 rfl (by repeat (first | exact mid_cell (q := 1) (i := fi) rfl hfl rfl | apply Cell.tail))) rfl ?_
  refine SPP_h rfl (y_load Tryz.isAgg105 rfl (by repeat (first | exact Cell.head rfl | apply Cell.tail))) rfl ?_
  refine SPP_p rfl (y_nil rfl) rfl ?_
  refine SPP_p rfl (y_fa fld_108_1 rfl) rfl ?_
  refine SPP_h rfl (y_load Tryz.isAgg9 rfl (by repeat (first | exact mid_cell (q := 1) (i := fi) rfl hfl rfl | apply Cell.tail))) rfl ?_
  refine SPP_p rfl (y_build B230 rfl rfl (by simp only [fillL, List.foldl_cons, List.foldl_nil, List.set_cons_zero, List.set_cons_succ]; exact rfl)) rfl ?_
  refine SPP_nil ?_
  refine SPG_two (i := 11) (j := 14) (by kernel_rfl) rfl rfl rfl rfl ?_ ?_
  · refine SP1_slice1 el_188 rfl rfl rfl rfl rfl ?_
    intro b17
    refine ⟨fun _ => ⟨_, (by repeat (first | exact Part.nil _ | (apply Part.cons; (first | exact P0 | exact P1 | exact P2 | exact P3 | exact P4 | exact P5 | exact P6 | exact P7 | exact P8 | exact P9 | exact P10 | exact P11 | exact P12 | exact P13 | exact P14 | exact P15 | exact P16 | exact P17 | exact P18 | exact P19 | exact P20 | exact P21 | exact P22 | exact P23)) | (apply Part.flat; simp only [List.cons_append, List.nil_append]) | (apply Part.nilc)))⟩, ?_⟩
    refine SPG_pre (fuel' := 3) [(12, 0)] (by kernel_rfl) (fun _ _ _ _ _ h => h) ?_
    refine SPP_p rfl (y_build B191 rfl rfl (by simp only [fillL, List.foldl_cons, List.foldl_nil, List.set_cons_zero, List.set_cons_succ]; exact rfl)) rfl ?_
    refine SPP_nil ?_
    refine SPG_two (i := 13) (j := 14) (by kernel_rfl) rfl rfl rfl rfl ?_ ?_
    · refine SP1_box rfl rfl rfl ?_
      intro b19
      refine ⟨fun h => absurd rfl h, ?_⟩
      refine SPG_ord [(14, 3), (15, 3)] (by kernel_rfl) (fun _ _ _ _ _ h => h) ?_
      refine SPO_z (k := 0) rfl rfl (SP1_alloc Tryz.zeroValue185 rfl rfl ?_)
      intro b5
      refine SPO_z (k := 0) rfl rfl (SP1_store Tryz.sizeOf185 rfl rfl rfl (by first | exact U0 | exact U1 | exact U2 | exact U3 | exact U4 | exact U5 | exact U6 | exact U7 | exact U8 | exact U9 | exact U10 | exact U11 | exact U12 | exact U13 | exact U14 | exact U15 | exact U16 | exact U17 | exact U18 | exact U19 | exact U20 | exact U21 | exact U22 | exact U23) (by rfl) ?_)
      refine SPO_nil ?_
      refine thenP_n ?_
      refine SP_seq ?_
      refine SP_region ?_
      refine SPL_y (y_load Tryz.isAgg185 rfl (by repeat (first | exact Cell.head rfl | apply Cell.tail))) rfl ?_
      refine SPL_one rfl (SP1_makeMap rfl ?_)
      intro b21
      refine SPL_y (y_mkf rfl rfl) rfl ?_
      refine SPL_one rfl (SP1_insert Tryz.underlying189 Tryz.underlying3 rfl rfl rfl (by first | exact P0 | exact P1 | exact P2 | exact P3 | exact P4 | exact P5 | exact P6 | exact P7 | exact P8 | exact P9 | exact P10 | exact P11 | exact P12 | exact P13 | exact P14 | exact P15 | exact P16 | exact P17 | exact P18 | exact P19 | exact P20 | exact P21 | exact P22 | exact P23) rfl ?_)
      refine SPL_y (y_mkf rfl rfl) rfl ?_
      refine SPL_one rfl (SP1_insert Tryz.underlying189 Tryz.underlying3 rfl rfl rfl (by first | exact P0 | exact P1 | exact P2 | exact P3 | exact P4 | exact P5 | exact P6 | exact P7 | exact P8 | exact P9 | exact P10 | exact P11 | exact P12 | exact P13 | exact P14 | exact P15 | exact P16 | exact P17 | exact P18 | exact P19 | exact P20 | exact P21 | exact P22 | exact P23) rfl ?_)
      refine SPL_y (y_mkf rfl rfl) rfl ?_
      refine SPL_one rfl (SP1_insert Tryz.underlying189 Tryz.underlying3 rfl rfl rfl (by first | exact P0 | exact P1 | exact P2 | exact P3 | exact P4 | exact P5 | exact P6 | exact P7 | exact P8 | exact P9 | exact P10 | exact P11 | exact P12 | exact P13 | exact P14 | exact P15 | exact P16 | exact P17 | exact P18 | exact P19 | exact P20 | exact P21 | exact P22 | exact P23) rfl ?_)
      refine SPL_y (y_load Tryz.isAgg185 rfl (by repeat (first | exact Cell.head rfl | apply Cell.tail))) rfl ?_
      refine SPL_y (y_mkf rfl rfl) rfl ?_
      refine SPL_one rfl (SP1_insert Tryz.underlying189 Tryz.underlying3 rfl rfl rfl (by first | exact P0 | exact P1 | exact P2 | exact P3 | exact P4 | exact P5 | exact P6 | exact P7 | exact P8 | exact P9 | exact P10 | exact P11 | exact P12 | exact P13 | exact P14 | exact P15 | exact P16 | exact P17 | exact P18 | exact P19 | exact P20 | exact P21 | exact P22 | exact P23) rfl ?_)
      refine SPL_y (y_load Tryz.isAgg185 rfl (by repeat (first | exact Cell.head rfl | apply Cell.tail))) rfl ?_
      refine SPL_y (y_mkf rfl rfl) rfl ?_
      refine SPL_one rfl (SP1_insert Tryz.underlying189 Tryz.underlying3 rfl rfl rfl (by first | exact P0 | exact P1 | exact P2 | exact P3 | exact P4 | exact P5 | exact P6 | exact P7 | exact P8 | exact P9 | exact P10 | exact P11 | exact P12 | exact P13 | exact P14 | exact P15 | exact P16 | exact P17 | exact P18 | exact P19 | exact P20 | exact P21 | exact P22 | exact P23) rfl ?_)
      refine SPL_y (y_load Tryz.isAgg185 rfl (by repeat (first | exact Cell.head rfl | apply Cell.tail))) rfl ?_
      refine SPL_y (y_mkf rfl rfl) rfl ?_
      refine SPL_one rfl (SP1_insert Tryz.underlying189 Tryz.underlying3 rfl rfl rfl (by first | exact P0 | exact P1 | exact P2 | exact P3 | exact P4 | exact P5 | exact P6 | exact P7 | exact P8 | exact P9 | exact P10 | exact P11 | exact P12 | exact P13 | exact P14 | exact P15 | exact P16 | exact P17 | exact P18 | exact P19 | exact P20 | exact P21 | exact P22 | exact P23) rfl ?_)
      refine SPL_y (y_load Tryz.isAgg185 rfl (by repeat (first | exact Cell.head rfl | apply Cell.tail))) rfl ?_
      refine SPL_y (y_mkf rfl rfl) rfl ?_
      refine SPL_one rfl (SP1_insert Tryz.underlying189 Tryz.underlying3 rfl rfl rfl (by first | exact P0 | exact P1 | exact P2 | exact P3 | exact P4 | exact P5 | exact P6 | exact P7 | exact P8 | exact P9 | exact P10 | exact P11 | exact P12 | exact P13 | exact P14 | exact P15 | exact P16 | exact P17 | exact P18 | exact P19 | exact P20 | exact P21 | exact P22 | exact P23) rfl ?_)
      refine SPL_y (y_move rfl) rfl ?_
      refine SPL_y (y_nil rfl) rfl ?_
      refine SPL_y (y_fa fld_191_5 rfl) rfl ?_
      refine SPL_one rfl (SP1_store Tryz.sizeOf189 rfl rfl rfl (by first | exact U0 | exact U1 | exact U2 | exact U3 | exact U4 | exact U5 | exact U6 | exact U7 | exact U8 | exact U9 | exact U10 | exact U11 | exact U12 | exact U13 | exact U14 | exact U15 | exact U16 | exact U17 | exact U18 | exact U19 | exact U20 | exact U21 | exact U22 | exact U23) (by rfl) ?_)
      refine SPL_nil ?_
      refine thenP_n ?_
      refine SP_seq ?_
      refine SP_region ?_
      refine SPL_y (y_load Tryz.isAgg185 rfl (by repeat (first | exact Cell.head rfl | apply Cell.tail))) rfl ?_
      refine SPL_y (y_assign rfl) rfl ?_
      refine SPL_nil ?_
      refine thenP_n ?_
      refine SP_ret ?_
      refine bodyP_ret (H' := [List.flatten [blk b19 191 [.pointer (some ⟨pb, 0, none⟩), .pointer (some ⟨bf, 0 + ((fi : Nat) : Int).toNat * 4, none⟩), .slice none 0 0, .slice (some ⟨b17, 0, none⟩) 1 1, .slice none 0 0, .map (some b21)], [], blk b17 230 [S f.results, S f.results, I 0, I (-1), .bool false, .nilFunc, .slice none 0 0], List.flatten [List.flatten [[], [], []], []], []], List.flatten [blk pb 96 [I P.nimp, I P.min, I P.max, I steps, .slice (some ⟨bf, 0, none⟩) P.funs.length fc], blk bf 108 (fl ++ [S f.params, S f.results, S f.locals, .slice fka f.code.length fkc] ++ fr ++ spf), List.flatten [f1, fsv, f2]], mp b21 (onE b19 b5 b3), blk b5 185 [.pointer (some ⟨b19, 0, none⟩)], blk b3 105 [.pointer (some ⟨bf, 0 + ((fi : Nat) : Int).toNat * 4, none⟩)]]) (Res1 rfl rfl) (by repeat (first | exact Part.nil _ | (apply Part.cons; (first | exact P0 | exact P1 | exact P2 | exact P3 | exact P4 | exact P5 | exact P6 | exact P7 | exact P8 | exact P9 | exact P10 | exact P11 | exact P12 | exact P13 | exact P14 | exact P15 | exact P16 | exact P17 | exact P18 | exact P19 | exact P20 | exact P21 | exact P22 | exact P23)) | (apply Part.flat; simp only [List.cons_append, List.nil_append]) | (apply Part.nilc))) ?_
      exact ⟨b19, b5, b3, b21, _, _, rfl, rfl, isChk.intro rfl rfl rfl (Arr.nil _ _) (Arr.full rfl) ⟨_, [], _, [], rfl, rfl, ⟨.nilFunc, none, 0, [], [], [], [], rfl, rfl, ⟨rfl, rfl⟩, Arr.nil _ _, ⟨rfl, rfl⟩⟩, ⟨rfl, rfl⟩⟩ (Arr.nil _ _)⟩
    refine SP1_alloc Tryz.zeroValue185 rfl rfl ?_
    intro b5
    refine ⟨fun _ => ⟨_, (by repeat (first | exact Part.nil _ | (apply Part.cons; (first | exact P0 | exact P1 | exact P2 | exact P3 | exact P4 | exact P5 | exact P6 | exact P7 | exact P8 | exact P9 | exact P10 | exact P11 | exact P12 | exact P13 | exact P14 | exact P15 | exact P16 | exact P17 | exact P18 | exact P19 | exact P20 | exact P21 | exact P22 | exact P23)) | (apply Part.flat; simp only [List.cons_append, List.nil_append]) | (apply Part.nilc)))⟩, ?_⟩
    refine SPG_ord [(13, 3), (15, 3)] (by kernel_rfl) (fun _ _ _ _ _ h => h) ?_
    refine SPO_z (k := 0) rfl rfl (SP1_box rfl rfl rfl ?_)
    intro b19
    refine SPO_z (k := 0) rfl rfl (SP1_store Tryz.sizeOf185 rfl rfl rfl (by first | exact U0 | exact U1 | exact U2 | exact U3 | exact U4 | exact U5 | exact U6 | exact U7 | exact U8 | exact U9 | exact U10 | exact U11 | exact U12 | exact U13 | exact U14 | exact U15 | exact U16 | exact U17 | exact U18 | exact U19 | exact U20 | exact U21 | exact U22 | exact U23) (by rfl) ?_)
    refine SPO_nil ?_
    refine thenP_n ?_
    refine SP_seq ?_
    refine SP_region ?_
    refine SPL_y (y_load Tryz.isAgg185 rfl (by repeat (first | exact Cell.head rfl | apply Cell.tail))) rfl ?_
    refine SPL_one rfl (SP1_makeMap rfl ?_)
    intro b21
    refine SPL_y (y_mkf rfl rfl) rfl ?_
    refine SPL_one rfl (SP1_insert Tryz.underlying189 Tryz.underlying3 rfl rfl rfl (by first | exact P0 | exact P1 | exact P2 | exact P3 | exact P4 | exact P5 | exact P6 | exact P7 | exact P8 | exact P9 | exact P10 | exact P11 | exact P12 | exact P13 | exact P14 | exact P15 | exact P16 | exact P17 | exact P18 | exact P19 | exact P20 | exact P21 | exact P22 | exact P23) rfl ?_)
    refine SPL_y (y_mkf rfl rfl) rfl ?_
    refine SPL_one rfl (SP1_insert Tryz.underlying189 Tryz.underlying3 rfl rfl rfl (by first | exact P0 | exact P1 | exact P2 | exact P3 | exact P4 | exact P5 | exact P6 | exact P7 | exact P8 | exact P9 | exact P10 | exact P11 | exact P12 | exact P13 | exact P14 | exact P15 | exact P16 | exact P17 | exact P18 | exact P19 | exact P20 | exact P21 | exact P22 | exact P23) rfl ?_)
    refine SPL_y (y_mkf rfl rfl) rfl ?_
    refine SPL_one rfl (SP1_insert Tryz.underlying189 Tryz.underlying3 rfl rfl rfl (by first | exact P0 | exact P1 | exact P2 | exact P3 | exact P4 | exact P5 | exact P6 | exact P7 | exact P8 | exact P9 | exact P10 | exact P11 | exact P12 | exact P13 | exact P14 | exact P15 | exact P16 | exact P17 | exact P18 | exact P19 | exact P20 | exact P21 | exact P22 | exact P23) rfl ?_)
    refine SPL_y (y_load Tryz.isAgg185 rfl (by repeat (first | exact Cell.head rfl | apply Cell.tail))) rfl ?_
    refine SPL_y (y_mkf rfl rfl) rfl ?_
    refine SPL_one rfl (SP1_insert Tryz.underlying189 Tryz.underlying3 rfl rfl rfl (by first | exact P0 | exact P1 | exact P2 | exact P3 | exact P4 | exact P5 | exact P6 | exact P7 | exact P8 | exact P9 | exact P10 | exact P11 | exact P12 | exact P13 | exact P14 | exact P15 | exact P16 | exact P17 | exact P18 | exact P19 | exact P20 | exact P21 | exact P22 | exact P23) rfl ?_)
    refine SPL_y (y_load Tryz.isAgg185 rfl (by repeat (first | exact Cell.head rfl | apply Cell.tail))) rfl ?_
    refine SPL_y (y_mkf rfl rfl) rfl ?_
    refine SPL_one rfl (SP1_insert Tryz.underlying189 Tryz.underlying3 rfl rfl rfl (by first | exact P0 | exact P1 | exact P2 | exact P3 | exact P4 | exact P5 | exact P6 | exact P7 | exact P8 | exact P9 | exact P10 | exact P11 | exact P12 | exact P13 | exact P14 | exact P15 | exact P16 | exact P17 | exact P18 | exact P19 | exact P20 | exact P21 | exact P22 | exact P23) rfl ?_)
    refine SPL_y (y_load Tryz.isAgg185 rfl (by repeat (first | exact Cell.head rfl | apply Cell.tail))) rfl ?_
    refine SPL_y (y_mkf rfl rfl) rfl ?_
    refine SPL_one rfl (SP1_insert Tryz.underlying189 Tryz.underlying3 rfl rfl rfl (by first | exact P0 | exact P1 | exact P2 | exact P3 | exact P4 | exact P5 | exact P6 | exact P7 | exact P8 | exact P9 | exact P10 | exact P11 | exact P12 | exact P13 | exact P14 | exact P15 | exact P16 | exact P17 | exact P18 | exact P19 | exact P20 | exact P21 | exact P22 | exact P23) rfl ?_)
    refine SPL_y (y_load Tryz.isAgg185 rfl (by repeat (first | exact Cell.head rfl | apply Cell.tail))) rfl ?_
    refine SPL_y (y_mkf rfl rfl) rfl ?_
    refine SPL_one rfl (SP1_insert Tryz.underlying189 Tryz.underlying3 rfl rfl rfl (by first | exact P0 | exact P1 | exact P2 | exact P3 | exact P4 | exact P5 | exact P6 | exact P7 | exact P8 | exact P9 | exact P10 | exact P11 | exact P12 | exact P13 | exact P14 | exact P15 | exact P16 | exact P17 | exact P18 | exact P19 | exact P20 | exact P21 | exact P22 | exact P23) rfl ?_)
    refine SPL_y (y_move rfl) rfl ?_
    refine SPL_y (y_nil rfl) rfl ?_
    refine SPL_y (y_fa fld_191_5 rfl) rfl ?_
    refine SPL_one rfl (SP1_store Tryz.sizeOf189 rfl rfl rfl (by first | exact U0 | exact U1 | exact U2 | exact U3 | exact U4 | exact U5 | exact U6 | exact U7 | exact U8 | exact U9 | exact U10 | exact U11 | exact U12 | exact U13 | exact U14 | exact U15 | exact U16 | exact U17 | exact U18 | exact U19 | exact U20 | exact U21 | exact U22 | exact U23) (by rfl) ?_)
    refine SPL_nil ?_
    refine thenP_n ?_
    refine SP_seq ?_
    refine SP_region ?_
    refine SPL_y (y_load Tryz.isAgg185 rfl (by repeat (first | exact Cell.head rfl | apply Cell.tail))) rfl ?_
    refine SPL_y (y_assign rfl) rfl ?_
    refine SPL_nil ?_
    refine thenP_n ?_
    refine SP_ret ?_
    refine bodyP_ret (H' := [List.flatten [blk b19 191 [.pointer (some ⟨pb, 0, none⟩), .pointer (some ⟨bf, 0 + ((fi : Nat) : Int).toNat * 4, none⟩), .slice none 0 0, .slice (some ⟨b17, 0, none⟩) 1 1, .slice none 0 0, .map (some b21)], [], blk b17 230 [S f.results, S f.results, I 0, I (-1), .bool false, .nilFunc, .slice none 0 0], List.flatten [List.flatten [[], [], []], []], []], List.flatten [blk pb 96 [I P.nimp, I P.min, I P.max, I steps, .slice (some ⟨bf, 0, none⟩) P.funs.length fc], blk bf 108 (fl ++ [S f.params, S f.results, S f.locals, .slice fka f.code.length fkc] ++ fr ++ spf), List.flatten [f1, fsv, f2]], mp b21 (onE b19 b5 b3), blk b5 185 [.pointer (some ⟨b19, 0, none⟩)], blk b3 105 [.pointer (some ⟨bf, 0 + ((fi : Nat) : Int).toNat * 4, none⟩)]]) (Res1 rfl rfl) (by repeat (first | exact Part.nil _ | (apply Part.cons; (first | exact P0 | exact P1 | exact P2 | exact P3 | exact P4 | exact P5 | exact P6 | exact P7 | exact P8 | exact P9 | exact P10 | exact P11 | exact P12 | exact P13 | exact P14 | exact P15 | exact P16 | exact P17 | exact P18 | exact P19 | exact P20 | exact P21 | exact P22 | exact P23)) | (apply Part.flat; simp only [List.cons_append, List.nil_append]) | (apply Part.nilc))) ?_
    exact ⟨b19, b5, b3, b21, _, _, rfl, rfl, isChk.intro rfl rfl rfl (Arr.nil _ _) (Arr.full rfl) ⟨_, [], _, [], rfl, rfl, ⟨.nilFunc, none, 0, [], [], [], [], rfl, rfl, ⟨rfl, rfl⟩, Arr.nil _ _, ⟨rfl, rfl⟩⟩, ⟨rfl, rfl⟩⟩ (Arr.nil _ _)⟩
  refine SP1_alloc Tryz.zeroValue185 rfl rfl ?_
  intro b5
  refine ⟨fun _ => ⟨_, (by repeat (first | exact Part.nil _ | (apply Part.cons; (first | exact P0 | exact P1 | exact P2 | exact P3 | exact P4 | exact P5 | exact P6 | exact P7 | exact P8 | exact P9 | exact P10 | exact P11 | exact P12 | exact P13 | exact P14 | exact P15 | exact P16 | exact P17 | exact P18 | exact P19 | exact P20 | exact P21 | exact P22 | exact P23)) | (apply Part.flat; simp only [List.cons_append, List.nil_append]) | (apply Part.nilc)))⟩, ?_⟩
  refine SPG_ord [(11, 2), (12, 0), (13, 3), (15, 3)] (by kernel_rfl) (fun _ _ _ _ _ h => h) ?_
  refine SPO_a rfl rfl (SP1_slice1 el_188 rfl rfl rfl rfl rfl ?_)
  intro b17
  refine ⟨⟨_, (by repeat (first | exact Part.nil _ | (apply Part.cons; (first | exact P0 | exact P1 | exact P2 | exact P3 | exact P4 | exact P5 | exact P6 | exact P7 | exact P8 | exact P9 | exact P10 | exact P11 | exact P12 | exact P13 | exact P14 | exact P15 | exact P16 | exact P17 | exact P18 | exact P19 | exact P20 | exact P21 | exact P22 | exact P23)) | (apply Part.flat; simp only [List.cons_append, List.nil_append]) | (apply Part.nilc)))⟩, ?_⟩
  refine SPO_p rfl (y_build B191 rfl rfl (by simp only [fillL, List.foldl_cons, List.foldl_nil, List.set_cons_zero, List.set_cons_succ]; exact rfl)) rfl ?_
  refine SPO_z (k := 0) rfl rfl (SP1_box rfl rfl rfl ?_)
  intro b19
  refine SPO_z (k := 0) rfl rfl (SP1_store Tryz.sizeOf185 rfl rfl rfl (by first | exact U0 | exact U1 | exact U2 | exact U3 | exact U4 | exact U5 | exact U6 | exact U7 | exact U8 | exact U9 | exact U10 | exact U11 | exact U12 | exact U13 | exact U14 | exact U15 | exact U16 | exact U17 | exact U18 | exact U19 | exact U20 | exact U21 | exact U22 | exact U23) (by rfl) ?_)
  refine SPO_nil ?_
  refine thenP_n ?_
  refine SP_seq ?_
  refine SP_region ?_
  refine SPL_y (y_load Tryz.isAgg185 rfl (by repeat (first | exact Cell.head rfl | apply Cell.tail))) rfl ?_
  refine SPL_one rfl (SP1_makeMap rfl ?_)
  intro b21
  refine SPL_y (y_mkf rfl rfl) rfl ?_
  refine SPL_one rfl (SP1_insert Tryz.underlying189 Tryz.underlying3 rfl rfl rfl (by first | exact P0 | exact P1 | exact P2 | exact P3 | exact P4 | exact P5 | exact P6 | exact P7 | exact P8 | exact P9 | exact P10 | exact P11 | exact P12 | exact P13 | exact P14 | exact P15 | exact P16 | exact P17 | exact P18 | exact P19 | exact P20 | exact P21 | exact P22 | exact P23) rfl ?_)
  refine SPL_y (y_mkf rfl rfl) rfl ?_
  refine SPL_one rfl (SP1_insert Tryz.underlying189 Tryz.underlying3 rfl rfl rfl (by first | exact P0 | exact P1 | exact P2 | exact P3 | exact P4 | exact P5 | exact P6 | exact P7 | exact P8 | exact P9 | exact P10 | exact P11 | exact P12 | exact P13 | exact P14 | exact P15 | exact P16 | exact P17 | exact P18 | exact P19 | exact P20 | exact P21 | exact P22 | exact P23) rfl ?_)
  refine SPL_y (y_mkf rfl rfl) rfl ?_
  refine SPL_one rfl (SP1_insert Tryz.underlying189 Tryz.underlying3 rfl rfl rfl (by first | exact P0 | exact P1 | exact P2 | exact P3 | exact P4 | exact P5 | exact P6 | exact P7 | exact P8 | exact P9 | exact P10 | exact P11 | exact P12 | exact P13 | exact P14 | exact P15 | exact P16 | exact P17 | exact P18 | exact P19 | exact P20 | exact P21 | exact P22 | exact P23) rfl ?_)
  refine SPL_y (y_load Tryz.isAgg185 rfl (by repeat (first | exact Cell.head rfl | apply Cell.tail))) rfl ?_
  refine SPL_y (y_mkf rfl rfl) rfl ?_
  refine SPL_one rfl (SP1_insert Tryz.underlying189 Tryz.underlying3 rfl rfl rfl (by first | exact P0 | exact P1 | exact P2 | exact P3 | exact P4 | exact P5 | exact P6 | exact P7 | exact P8 | exact P9 | exact P10 | exact P11 | exact P12 | exact P13 | exact P14 | exact P15 | exact P16 | exact P17 | exact P18 | exact P19 | exact P20 | exact P21 | exact P22 | exact P23) rfl ?_)
  refine SPL_y (y_load Tryz.isAgg185 rfl (by repeat (first | exact Cell.head rfl | apply Cell.tail))) rfl ?_
  refine SPL_y (y_mkf rfl rfl) rfl ?_
  refine SPL_one rfl (SP1_insert Tryz.underlying189 Tryz.underlying3 rfl rfl rfl (by first | exact P0 | exact P1 | exact P2 | exact P3 | exact P4 | exact P5 | exact P6 | exact P7 | exact P8 | exact P9 | exact P10 | exact P11 | exact P12 | exact P13 | exact P14 | exact P15 | exact P16 | exact P17 | exact P18 | exact P19 | exact P20 | exact P21 | exact P22 | exact P23) rfl ?_)
  refine SPL_y (y_load Tryz.isAgg185 rfl (by repeat (first | exact Cell.head rfl | apply Cell.tail))) rfl ?_
  refine SPL_y (y_mkf rfl rfl) rfl ?_
  refine SPL_one rfl (SP1_insert Tryz.underlying189 Tryz.underlying3 rfl rfl rfl (by first | exact P0 | exact P1 | exact P2 | exact P3 | exact P4 | exact P5 | exact P6 | exact P7 | exact P8 | exact P9 | exact P10 | exact P11 | exact P12 | exact P13 | exact P14 | exact P15 | exact P16 | exact P17 | exact P18 | exact P19 | exact P20 | exact P21 | exact P22 | exact P23) rfl ?_)
  refine SPL_y (y_load Tryz.isAgg185 rfl (by repeat (first | exact Cell.head rfl | apply Cell.tail))) rfl ?_
  refine SPL_y (y_mkf rfl rfl) rfl ?_
  refine SPL_one rfl (SP1_insert Tryz.underlying189 Tryz.underlying3 rfl rfl rfl (by first | exact P0 | exact P1 | exact P2 | exact P3 | exact P4 | exact P5 | exact P6 | exact P7 | exact P8 | exact P9 | exact P10 | exact P11 | exact P12 | exact P13 | exact P14 | exact P15 | exact P16 | exact P17 | exact P18 | exact P19 | exact P20 | exact P21 | exact P22 | exact P23) rfl ?_)
  refine SPL_y (y_move rfl) rfl ?_
  refine SPL_y (y_nil rfl) rfl ?_
  refine SPL_y (y_fa fld_191_5 rfl) rfl ?_
  refine SPL_one rfl (SP1_store Tryz.sizeOf189 rfl rfl rfl (by first | exact U0 | exact U1 | exact U2 | exact U3 | exact U4 | exact U5 | exact U6 | exact U7 | exact U8 | exact U9 | exact U10 | exact U11 | exact U12 | exact U13 | exact U14 | exact U15 | exact U16 | exact U17 | exact U18 | exact U19 | exact U20 | exact U21 | exact U22 | exact U23) (by rfl) ?_)
  refine SPL_nil ?_
  refine thenP_n ?_
  refine SP_seq ?_
  refine SP_region ?_
  refine SPL_y (y_load Tryz.isAgg185 rfl (by repeat (first | exact Cell.head rfl | apply Cell.tail))) rfl ?_
  refine SPL_y (y_assign rfl) rfl ?_
  refine SPL_nil ?_
  refine thenP_n ?_
  refine SP_ret ?_
  refine bodyP_ret (H' := [List.flatten [blk b19 191 [.pointer (some ⟨pb, 0, none⟩), .pointer (some ⟨bf, 0 + ((fi : Nat) : Int).toNat * 4, none⟩), .slice none 0 0, .slice (some ⟨b17, 0, none⟩) 1 1, .slice none 0 0, .map (some b21)], [], blk b17 230 [S f.results, S f.results, I 0, I (-1), .bool false, .nilFunc, .slice none 0 0], List.flatten [List.flatten [[], [], []], []], []], List.flatten [blk pb 96 [I P.nimp, I P.min, I P.max, I steps, .slice (some ⟨bf, 0, none⟩) P.funs.length fc], blk bf 108 (fl ++ [S f.params, S f.results, S f.locals, .slice fka f.code.length fkc] ++ fr ++ spf), List.flatten [f1, fsv, f2]], mp b21 (onE b19 b5 b3), blk b5 185 [.pointer (some ⟨b19, 0, none⟩)], blk b3 105 [.pointer (some ⟨bf, 0 + ((fi : Nat) : Int).toNat * 4, none⟩)]]) (Res1 rfl rfl) (by repeat (first | exact Part.nil _ | (apply Part.cons; (first | exact P0 | exact P1 | exact P2 | exact P3 | exact P4 | exact P5 | exact P6 | exact P7 | exact P8 | exact P9 | exact P10 | exact P11 | exact P12 | exact P13 | exact P14 | exact P15 | exact P16 | exact P17 | exact P18 | exact P19 | exact P20 | exact P21 | exact P22 | exact P23)) | (apply Part.flat; simp only [List.cons_append, List.nil_append]) | (apply Part.nilc))) ?_
  exact ⟨b19, b5, b3, b21, _, _, rfl, rfl, isChk.intro rfl rfl rfl (Arr.nil _ _) (Arr.full rfl) ⟨_, [], _, [], rfl, rfl, ⟨.nilFunc, none, 0, [], [], [], [], rfl, rfl, ⟨rfl, rfl⟩, Arr.nil _ _, ⟨rfl, rfl⟩⟩, ⟨rfl, rfl⟩⟩ (Arr.nil _ _)⟩

end Go.Sl
