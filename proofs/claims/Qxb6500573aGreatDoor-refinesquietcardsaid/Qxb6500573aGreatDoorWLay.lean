/- Walks: package comp, the image laid (made by program out of short notes) -/
import Derived.Test.Qxb6500573aGreatDoorAI
namespace Go.Sl
open Go Go.Wl Go.Proofs
set_option maxRecDepth 100000
set_option linter.unusedVariables false
set_option linter.unusedSimpArgs false
theorem u8V_one (l : List Int) : (l.map u8V).all Value.oneCell' = true := by
  induction l with
  | nil => rfl
  | cons x l ih => rw [List.map_cons, List.all_cons, ih]; rfl
theorem cl_put (cb : Nat) (r0 r1 r2 r3 r4 : Value) (ba : Option Addr) (bc : Nat) (sb : Seg) (buf l : List Int) (b c : Nat) (T : TypeId) (hA : Arr 5 1 ba buf.length bc (buf.map u8V) sb) (hl : buf.length + l.length ≤ 70000000000000) :
    Spec Tryz.prog 74 [pt cb, .slice (some ⟨b, 0, none⟩) l.length c] [blk cb 69 [r0, r1, r2, r3, r4, .slice ba buf.length bc], sb, blk b T (l.map u8V)] (Ret fun v H => v = .tuple #[] ∧ ∃ ba bc sb, Arr 5 1 ba (buf ++ l).length bc ((buf ++ l).map u8V) sb ∧ H = [blk cb 69 [r0, r1, r2, r3, r4, .slice ba (buf ++ l).length bc], sb]) := by
  refine Spec_enter Tryz.func74 rfl Tryz.ntmps74 rfl ?_
  show SP _ _ _ _ _ [(0, _), (1, _)] _
  refine SP_region ?_
  refine SPL_y (y_move rfl) rfl ?_
  refine SPL_y (y_move rfl) rfl ?_
  refine SPL_y (y_nil rfl) rfl ?_
  refine SPL_y (y_fa fld_69_5 rfl) rfl ?_
  refine SPL_y (y_load Tryz.isAgg67 rfl (by repeat (first | exact Cell.amid hpre rfl | exact Cell.head rfl | apply Cell.tail))) rfl ?_
  refine SPL_y (y_move rfl) rfl ?_
  refine SPL_one rfl (SP1_append el_67 (.inl Tryz.underlying67) rfl rfl hA (by first | exact P0 | exact P1 | exact P2 | exact P3 | exact P4 | exact P5 | exact P6 | exact P7 | exact P8 | exact P9 | exact P10 | exact P11 | exact P12 | exact P13 | exact P14 | exact P15 | exact P16 | exact P17 | exact P18 | exact P19 | exact P20 | exact P21 | exact P22 | exact P23) (Src.of (by repeat (first | exact Cells.all _ | exact Cells.amid hpre rfl (by decide) | exact Cells.head rfl | apply Cells.tail)) (by simp)) (u8V_one _) (by omega) rfl ?_)
  intro ba1 bc1 sb1 hA1
  refine SPL_y (y_nil rfl) rfl ?_
  refine SPL_y (y_fa fld_69_5 rfl) rfl ?_
  refine SPL_one rfl (SP1_store Tryz.sizeOf67 rfl rfl rfl (by first | exact U0 | exact U1 | exact U2 | exact U3 | exact U4 | exact U5 | exact U6 | exact U7 | exact U8 | exact U9 | exact U10 | exact U11 | exact U12 | exact U13 | exact U14 | exact U15 | exact U16 | exact U17 | exact U18 | exact U19 | exact U20 | exact U21 | exact U22 | exact U23) (by rfl) ?_)
  rw [show buf.length + l.length = (buf ++ l).length from List.length_append.symm, ← List.map_append] at hA1
  rw [show buf.length + l.length = (buf ++ l).length from List.length_append.symm]
  refine SPL_nil ?_
  refine bodyP_end (H' := [blk cb 69 [r0, r1, r2, r3, r4, .slice ba1 (buf ++ l).length bc1], sb1]) (Res0 rfl) (by repeat (first | exact Part.nil _ | (apply Part.cons; with_reducible (first | exact P0 | exact P1 | exact P2 | exact P3 | exact P4 | exact P5 | exact P6 | exact P7 | exact P8 | exact P9 | exact P10 | exact P11 | exact P12 | exact P13 | exact P14 | exact P15 | exact P16 | exact P17 | exact P18 | exact P19 | exact P20 | exact P21 | exact P22 | exact P23)) | (apply Part.flat; simp only [List.cons_append, List.nil_append]) | (apply Part.cons; (first | exact P0 | exact P1 | exact P2 | exact P3 | exact P4 | exact P5 | exact P6 | exact P7 | exact P8 | exact P9 | exact P10 | exact P11 | exact P12 | exact P13 | exact P14 | exact P15 | exact P16 | exact P17 | exact P18 | exact P19 | exact P20 | exact P21 | exact P22 | exact P23)) | (apply Part.nilc))) ?_
  exact ⟨rfl, ba1, bc1, sb1, hA1, rfl⟩

theorem cl_put16 (cb : Nat) (r0 r1 r2 r3 r4 : Value) (ba : Option Addr) (bc : Nat) (sb : Seg) (buf : List Int) (x : Int) (hA : Arr 5 1 ba buf.length bc (buf.map u8V) sb) (hl : buf.length + 2 ≤ 70000000000000) :
    Spec Tryz.prog 75 [pt cb, I x] [blk cb 69 [r0, r1, r2, r3, r4, .slice ba buf.length bc], sb] (Ret fun v H => v = .tuple #[] ∧ ∃ ba bc sb, Arr 5 1 ba (buf ++ p16 x).length bc ((buf ++ p16 x).map u8V) sb ∧ H = [blk cb 69 [r0, r1, r2, r3, r4, .slice ba (buf ++ p16 x).length bc], sb]) := by
  refine Spec_enter Tryz.func75 rfl Tryz.ntmps75 rfl ?_
  show SP _ _ _ _ _ [(0, _), (1, _)] _
  refine SP_region ?_
  refine SPL_y (y_move rfl) rfl ?_
  refine SPL_y (y_move rfl) rfl ?_
  refine SPL_y (y_conv Tryz.underlying3 Tryz.underlying5 rfl rfl) rfl ?_
  refine SPL_y (y_move rfl) rfl ?_
  refine SPL_y (y_shr rfl rfl (by first | omega | decide) rfl) rfl ?_
  refine SPL_y (y_conv Tryz.underlying3 Tryz.underlying5 rfl rfl) rfl ?_
  refine SPL_one rfl (SP1_slice12 el_67 rfl rfl rfl rfl rfl ?_)
  intro b10
  refine SPL_one rfl (SP1_call (cl_put cb r0 r1 r2 r3 r4 ba bc sb buf (p16 x) _ _ 5 hA hl) Tryz.call74 rfl rfl (by repeat (first | exact Part.nil _ | (apply Part.cons; with_reducible (first | exact P0 | exact P1 | exact P2 | exact P3 | exact P4 | exact P5 | exact P6 | exact P7 | exact P8 | exact P9 | exact P10 | exact P11 | exact P12 | exact P13 | exact P14 | exact P15 | exact P16 | exact P17 | exact P18 | exact P19 | exact P20 | exact P21 | exact P22 | exact P23)) | (apply Part.flat; simp only [List.cons_append, List.nil_append]) | (apply Part.cons; (first | exact P0 | exact P1 | exact P2 | exact P3 | exact P4 | exact P5 | exact P6 | exact P7 | exact P8 | exact P9 | exact P10 | exact P11 | exact P12 | exact P13 | exact P14 | exact P15 | exact P16 | exact P17 | exact P18 | exact P19 | exact P20 | exact P21 | exact P22 | exact P23)) | (apply Part.nilc))) ?_)
  rintro v post H' ⟨rfl, ba1, bc1, sb1, hA1, rfl⟩ hH
  try simp only [List.cons_append, List.nil_append] at hH
  subst hH
  refine SPL_nil ?_
  refine bodyP_end (H' := [blk cb 69 [r0, r1, r2, r3, r4, .slice ba1 (buf ++ p16 x).length bc1], sb1]) (Res0 rfl) (by repeat (first | exact Part.nil _ | (apply Part.cons; with_reducible (first | exact P0 | exact P1 | exact P2 | exact P3 | exact P4 | exact P5 | exact P6 | exact P7 | exact P8 | exact P9 | exact P10 | exact P11 | exact P12 | exact P13 | exact P14 | exact P15 | exact P16 | exact P17 | exact P18 | exact P19 | exact P20 | exact P21 | exact P22 | exact P23)) | (apply Part.flat; simp only [List.cons_append, List.nil_append]) | (apply Part.cons; (first | exact P0 | exact P1 | exact P2 | exact P3 | exact P4 | exact P5 | exact P6 | exact P7 | exact P8 | exact P9 | exact P10 | exact P11 | exact P12 | exact P13 | exact P14 | exact P15 | exact P16 | exact P17 | exact P18 | exact P19 | exact P20 | exact P21 | exact P22 | exact P23)) | (apply Part.nilc))) ?_
  exact ⟨rfl, ba1, bc1, sb1, hA1, rfl⟩

section
variable {P : Program} {n : Nat} {ρ : Env} {H : Hp} {ty : TypeId}
theorem y_arr_all {t e : TypeId} {x : Operand} {b o m z : Nat} (ht : P.underlying t = some (.array m e)) (hz : ∀ w, (sizeOf e).run P w = .ok z w) (hx : ev ρ x = some (.pointer (some ⟨b, o, none⟩))) : Yo P n (.slice t x none none none) ty ρ H (.slice (some ⟨b, o, none⟩) m m) :=
  .mk fun _ _ hf w => by
    simp [runs, execOp, Instr.sliceAt, Instr.sliceBounds, run_underlying ht, hf.ev hx, hz, Instr.sureAddr, Addr_add]
end
theorem take_flat {α : Type} {l : List α} {g : α → List Int} {i : Nat} {x : α} (h : l[i]? = some x) : (l.take (i + 1)).flatMap g = (l.take i).flatMap g ++ g x := by
  obtain ⟨hi, he⟩ := List.getElem?_eq_some_iff.1 h
  rw [List.take_succ_eq_append_getElem hi, List.flatMap_append, he]; simp
theorem bytesV_str (l : List UInt8) : bytesV l = (l.map (fun c => (c.toNat : Int))).map u8V := by simp [bytesV, u8V, Function.comp_def]
theorem layC_len (v : V) (h : v.s.length < 1000000) : (layC v).length ≤ 1000002 := by
  unfold layC
  split
  · simp
  · simp; omega
theorem consts_len : ∀ (l : List V), (∀ v ∈ l, v.s.length < 1000000) → (l.flatMap layC).length ≤ l.length * 1000002
  | [], _ => by simp
  | v :: l, h => by
    have h1 := layC_len v (h v (List.mem_cons_self))
    have h2 := consts_len l (fun w hw => h w (List.mem_cons_of_mem _ hw))
    simp only [List.flatMap_cons, List.length_append, List.length_cons]
    omega
theorem layFn_len (f : Fs) (h : layOk f = true) : (layFn f).length ≤ 2000000000000 := by
  unfold layOk at h
  rw [Bool.and_eq_true] at h
  obtain ⟨h1, h2⟩ := h
  have h1 := of_decide_eq_true h1
  have h3 := consts_len f.consts (fun v hv => of_decide_eq_true (List.all_eq_true.1 h2 v hv))
  have h4 : (f.ups.flatMap layU).length = f.ups.length * 2 := by induction f.ups with | nil => rfl | cons x l ih => simp [ih, layU]; omega
  have h5 : (f.code.flatMap layI).length = f.code.length * 3 := by induction f.code with | nil => rfl | cons x l ih => simp [ih, layI]; omega
  unfold layFn
  simp only [List.length_append, h4, h5, p16, List.length_cons, List.length_nil]
  omega
set_option maxHeartbeats 4000000 in
theorem cl_lay (cb fb : Nat) (pv dv : Value) (s : CS) (buf : List Int) {im : List UInt8} (hP : imageM s = some im) (seg : Seg) (hC : isCr cb fb pv dv s buf seg) : Spec Tryz.prog 52 [pt cb] [seg] (Ret fun v H => v = S im ∧ ∃ seg, isCr cb fb pv dv s (layM s) seg ∧ H = [seg]) := by
  unfold imageM at hP
  have hG : (0 ≤ s.np ∧ s.np ≤ 13) ∧ (s.fs.take s.np.toNat).all layOk = true ∧ (layM s).all (fun b => decide (0 ≤ b ∧ b < 256)) = true := Decidable.byContradiction fun q => by rw [if_neg q] at hP; cases hP
  rw [if_pos hG] at hP
  injection hP with hP
  subst hP
  obtain ⟨⟨hn0, hn13⟩, hok, hrng⟩ := hG
  obtain ⟨cs, st, ba, bc, sb, rfl, hR, hl13, hnp, hA⟩ := hC
  obtain ⟨np, hnpe⟩ : ∃ np, np = s.np := ⟨_, rfl⟩
  obtain ⟨nn, hnn⟩ : ∃ nn : Nat, np = nn := ⟨np.toNat, by omega⟩
  rw [← hnpe] at hn0 hn13 hok hnp
  refine Spec_openAt [crest cb fb pv dv np ba buf.length bc, blk fb 96 cs, st, sb] (by rw [hnpe]; first | exact P0 | exact P1 | exact P2 | exact P3 | exact P4 | exact P5 | exact P6 | exact P7 | exact P8 | exact P9 | exact P10 | exact P11 | exact P12 | exact P13 | exact P14 | exact P15 | exact P16 | exact P17 | exact P18 | exact P19 | exact P20 | exact P21 | exact P22 | exact P23) ?_
  simp only [List.cons_append, List.nil_append]
  have hA0 := hA.cut (j := 0) (Nat.zero_le _)
  rw [Nat.zero_mul, List.take_zero] at hA0
  have hA9 : Arr 5 1 ba ([] : List Int).length bc (([] : List Int).map u8V) sb := hA0
  refine Spec_enter Tryz.func52 rfl Tryz.ntmps52 rfl ?_
  show SP _ _ _ _ _ [(0, _)] _
  refine SP_seq ?_
  refine SP_region ?_
  refine SPL_y (y_assign rfl) rfl ?_
  refine SPL_nil ?_
  refine thenP_n ?_
  refine SP_seq ?_
  refine SP_region ?_
  refine SPL_y (y_move rfl) rfl ?_
  refine SPL_y (y_move rfl) rfl ?_
  refine SPL_y (y_nil rfl) rfl ?_
  refine SPL_y (y_fa fld_69_5 rfl) rfl ?_
  refine SPL_y (y_load Tryz.isAgg67 rfl (by repeat (first | exact Cell.amid hpre rfl | exact Cell.head rfl | apply Cell.tail))) rfl ?_
  refine SPL_y (y_cut hA Tryz.underlying67 Tryz.sizeOf5 rfl rfl (by omega)) rfl ?_
  refine SPL_y (y_nil rfl) rfl ?_
  refine SPL_y (y_fa fld_69_5 rfl) rfl ?_
  refine SPL_one rfl (SP1_store Tryz.sizeOf67 rfl rfl rfl (by first | exact U0 | exact U1 | exact U2 | exact U3 | exact U4 | exact U5 | exact U6 | exact U7 | exact U8 | exact U9 | exact U10 | exact U11 | exact U12 | exact U13 | exact U14 | exact U15 | exact U16 | exact U17 | exact U18 | exact U19 | exact U20 | exact U21 | exact U22 | exact U23) (by rfl) ?_)
  refine SPL_nil ?_
  refine thenP_n ?_
  refine SP_seq ?_
  refine SP_region ?_
  refine SPL_y (y_move rfl) rfl ?_
  refine SPL_y (y_move rfl) rfl ?_
  refine SPL_y (y_nil rfl) rfl ?_
  refine SPL_y (y_fa fld_69_4 rfl) rfl ?_
  refine SPL_y (y_load Tryz.isAgg3 rfl (by repeat (first | exact Cell.amid hpre rfl | exact Cell.head rfl | apply Cell.tail))) rfl ?_
  refine SPL_y (y_conv Tryz.underlying3 Tryz.underlying5 rfl rfl) rfl ?_
  refine SPL_one rfl (SP1_slice1 el_67 rfl rfl rfl rfl rfl ?_)
  intro b26
  refine SPL_one rfl (SP1_call (cl_put cb _ _ _ _ _ ba bc sb [] [u8 np] _ _ 5 hA9 (by simp only [List.length_append, List.length_cons, List.length_nil, p16, layU, layI] at *; omega)) Tryz.call74 rfl rfl (by repeat (first | exact Part.nil _ | (apply Part.cons; with_reducible (first | exact P0 | exact P1 | exact P2 | exact P3 | exact P4 | exact P5 | exact P6 | exact P7 | exact P8 | exact P9 | exact P10 | exact P11 | exact P12 | exact P13 | exact P14 | exact P15 | exact P16 | exact P17 | exact P18 | exact P19 | exact P20 | exact P21 | exact P22 | exact P23)) | (apply Part.flat; simp only [List.cons_append, List.nil_append]) | (apply Part.cons; (first | exact P0 | exact P1 | exact P2 | exact P3 | exact P4 | exact P5 | exact P6 | exact P7 | exact P8 | exact P9 | exact P10 | exact P11 | exact P12 | exact P13 | exact P14 | exact P15 | exact P16 | exact P17 | exact P18 | exact P19 | exact P20 | exact P21 | exact P22 | exact P23)) | (apply Part.nilc))) ?_)
  rintro v post H' ⟨rfl, ba1, bc1, sb1, hA1, rfl⟩ hH
  try simp only [List.cons_append, List.nil_append] at hH
  subst hH
  refine SPL_nil ?_
  refine thenP_n ?_
  refine SP_seq ?_
  refine SP_seq ?_
  refine SP_region ?_
  refine SPL_y (y_move rfl) rfl ?_
  refine SPL_y (y_nil rfl) rfl ?_
  refine SPL_y (y_fa fld_69_4 rfl) rfl ?_
  refine SPL_y (y_load Tryz.isAgg3 rfl (by repeat (first | exact Cell.amid hpre rfl | exact Cell.head rfl | apply Cell.tail))) rfl ?_
  refine SPL_y (y_move rfl) rfl ?_
  refine SPL_nil ?_
  refine thenP_n ?_
  refine SP_block ?_
  refine SP_loop (G := Nat × Option Addr × Nat × Seg × List Int) (fun g => nn - g.1) (fun g => [(0, pt cb), (31, I np), (32, I g.1)]) (fun g => [crest cb fb pv dv np g.2.1 g.2.2.2.2.length g.2.2.1, blk fb 96 cs, st, g.2.2.2.1]) (fun g => g.1 ≤ nn ∧ Arr 5 1 g.2.1 g.2.2.2.2.length g.2.2.1 (g.2.2.2.2.map u8V) g.2.2.2.1 ∧ g.2.2.2.2 = [u8 np] ++ (s.fs.take g.1).flatMap layFn ∧ g.2.2.2.2.length ≤ 1 + g.1 * 2000000000000) ((0, ba1, bc1, sb1, [] ++ [u8 np])) (⟨Nat.zero_le _, hA1, by simp, by simp⟩) (by repeat (first | exact Sub.nil _ | refine Sub.cons rfl ?_)) (by repeat (first | exact Part.nil _ | (apply Part.cons; with_reducible (first | exact P0 | exact P1 | exact P2 | exact P3 | exact P4 | exact P5 | exact P6 | exact P7 | exact P8 | exact P9 | exact P10 | exact P11 | exact P12 | exact P13 | exact P14 | exact P15 | exact P16 | exact P17 | exact P18 | exact P19 | exact P20 | exact P21 | exact P22 | exact P23)) | (apply Part.flat; simp only [List.cons_append, List.nil_append]) | (apply Part.cons; (first | exact P0 | exact P1 | exact P2 | exact P3 | exact P4 | exact P5 | exact P6 | exact P7 | exact P8 | exact P9 | exact P10 | exact P11 | exact P12 | exact P13 | exact P14 | exact P15 | exact P16 | exact P17 | exact P18 | exact P19 | exact P20 | exact P21 | exact P22 | exact P23)) | (apply Part.nilc))) ?_
  rintro ⟨j, ba2, bc2, sb2, b2⟩ ⟨hj, hA2, hb2, hl2⟩
  dsimp only at hj hA2 hb2 hl2 ⊢
  refine SP_seq ?_
  refine SP_region ?_
  refine SPL_ifn (y_lss rfl rfl) rfl ?_ ?_
  · intro h4_0
    refine SPL_nil ?_
    refine thenP_n ?_
    refine SP_seq ?_
    refine SP_cond_f rfl ?_
    refine SP_exit ?_
    refine thenP_exit ?_
    refine thenP_exit ?_
    refine inBlockP_hit ?_
    refine thenP_n ?_
    refine SP_seq ?_
    obtain rfl : j = nn := by omega
    have hbe : b2 = layM s := by rw [hb2, layM, ← hnpe, hnn]; simp
    have hb2l : 0 < b2.length := by rw [hb2]; simp
    obtain ⟨bb, bsp, rfl, hbc, hbsp, rfl⟩ := hA2.row hb2l
    rw [← hbe] at hrng
    have hbv := bytes_of hrng
    refine SP_region ?_
    refine SPL_y (y_move rfl) rfl ?_
    refine SPL_y (y_nil rfl) rfl ?_
    refine SPL_y (y_fa fld_69_5 rfl) rfl ?_
    refine SPL_y (y_load Tryz.isAgg67 rfl (by repeat (first | exact Cell.amid hpre rfl | exact Cell.head rfl | apply Cell.tail))) rfl ?_
    refine SPL_y (y_b2s Tryz.underlying67 Tryz.underlying5 Tryz.underlying9 rfl (l := b2.map toB) (by repeat (first | exact (Cells.head (by rw [hbv]; simp)) | apply Cells.tail)) (by simp)) rfl ?_
    refine SPL_y (y_assign rfl) rfl ?_
    refine SPL_nil ?_
    refine thenP_n ?_
    refine SP_ret ?_
    refine bodyP_ret (H' := [List.flatten [crest cb fb pv dv np (some ⟨bb, 0, none⟩) b2.length bc2, blk fb 96 cs, st, blk bb 5 (b2.map u8V ++ bsp)]]) (Res1 rfl rfl) (by repeat (first | exact Part.nil _ | (apply Part.cons; with_reducible (first | exact P0 | exact P1 | exact P2 | exact P3 | exact P4 | exact P5 | exact P6 | exact P7 | exact P8 | exact P9 | exact P10 | exact P11 | exact P12 | exact P13 | exact P14 | exact P15 | exact P16 | exact P17 | exact P18 | exact P19 | exact P20 | exact P21 | exact P22 | exact P23)) | (apply Part.flat; simp only [List.cons_append, List.nil_append]) | (apply Part.cons; (first | exact P0 | exact P1 | exact P2 | exact P3 | exact P4 | exact P5 | exact P6 | exact P7 | exact P8 | exact P9 | exact P10 | exact P11 | exact P12 | exact P13 | exact P14 | exact P15 | exact P16 | exact P17 | exact P18 | exact P19 | exact P20 | exact P21 | exact P22 | exact P23)) | (apply Part.nilc))) ?_
    rw [hbe] at *
    rw [hnpe]
    exact ⟨rfl, _, ⟨cs, st, _, bc2, _, rfl, hR, hl13, by omega, hA2⟩, rfl⟩
  intro h4_0
  refine SPL_nil ?_
  refine thenP_n ?_
  refine SP_seq ?_
  refine SP_cond_t rfl ?_
  refine SP_skip ?_
  refine thenP_n ?_
  refine SP_seq ?_
  refine SP_block ?_
  refine SP_seq ?_
  have hjl : j < s.fs.length := by omega
  obtain ⟨f, hf⟩ : ∃ f, s.fs[j]? = some f := ⟨_, List.getElem?_eq_getElem hjl⟩
  have hokf : layOk f = true := List.all_eq_true.1 hok f (List.mem_of_getElem? (i := j) (by rw [List.getElem?_take_of_lt (by omega), hf]))
  have hok2 := hokf
  unfold layOk at hok2
  rw [Bool.and_eq_true] at hok2
  obtain ⟨hok3, hok4⟩ := hok2
  have hok3 := of_decide_eq_true hok3
  obtain ⟨cv, pv0, mn, ms, la, lc, ua, uc, ka, kc, oa, oc, qa, qc, ls, us, ks, sn, ss, os, qs, ql, c0, c2, s0, s2, rfl, rfl, hpre, hup, hco, hcd⟩ := fns_open hR hf
  refine SP_openAt [s0, ls, us, ks, sn, ss, os, qs, ql, s2] (by first | exact P0 | exact P1 | exact P2 | exact P3 | exact P4 | exact P5 | exact P6 | exact P7 | exact P8 | exact P9 | exact P10 | exact P11 | exact P12 | exact P13 | exact P14 | exact P15 | exact P16 | exact P17 | exact P18 | exact P19 | exact P20 | exact P21 | exact P22 | exact P23) ?_
  simp only [List.cons_append, List.nil_append]
  refine SP_region ?_
  refine SPL_y (y_move rfl) rfl ?_
  refine SPL_y (y_assign rfl) rfl ?_
  refine SPL_nil ?_
  refine thenP_n ?_
  refine SP_seq ?_
  refine SP_region ?_
  refine SPL_y (y_move rfl) rfl ?_
  refine SPL_y (y_nil rfl) rfl ?_
  refine SPL_y (y_fa fld_69_3 rfl) rfl ?_
  refine SPL_y (y_load Tryz.isAgg66 rfl (by repeat (first | exact Cell.amid hpre rfl | exact Cell.head rfl | apply Cell.tail))) rfl ?_
  refine SPL_y (y_move rfl) rfl ?_
  refine SPL_y (y_ia Tryz.underlying66 Tryz.sizeOf96 rfl rfl (by omega)) rfl ?_
  refine SPL_y (y_assign rfl) rfl ?_
  refine SPL_nil ?_
  refine thenP_n ?_
  refine SP_seq ?_
  refine SP_draw 17 [(0, 0), (1, 0), (2, 0), (3, 0), (6, 0), (7, 0), (8, 0), (11, 0), (12, 0), (13, 0), (4, 1), (5, 0), (9, 1), (10, 0), (14, 1), (15, 0), (16, 0), (17, 3), (18, 3)] mixed (by kernel_rfl) (fun _ _ _ _ _ h => h) (Part.refl _) ?_
  refine SPO_p rfl (y_move rfl) rfl ?_
  refine SPO_p rfl (y_move rfl) rfl ?_
  refine SPO_p rfl (y_nil rfl) rfl ?_
  refine SPO_p rfl (y_fa fld_96_2 rfl) rfl ?_
  refine SPO_p rfl (y_move rfl) rfl ?_
  refine SPO_p rfl (y_nil rfl) rfl ?_
  refine SPO_p rfl (y_fa fld_96_4 rfl) rfl ?_
  refine SPO_p rfl (y_move rfl) rfl ?_
  refine SPO_p rfl (y_nil rfl) rfl ?_
  refine SPO_p rfl (y_fa fld_96_5 rfl) rfl ?_
  refine SPO_h rfl (y_load Tryz.isAgg3 rfl (by repeat (first | exact Cell.amid hpre rfl | exact Cell.head rfl | apply Cell.tail))) rfl ?_
  refine SPO_p rfl (y_conv Tryz.underlying3 Tryz.underlying5 rfl rfl) rfl ?_
  refine SPO_h rfl (y_load Tryz.isAgg3 rfl (by repeat (first | exact Cell.amid hpre rfl | exact Cell.head rfl | apply Cell.tail))) rfl ?_
  refine SPO_p rfl (y_conv Tryz.underlying3 Tryz.underlying5 rfl rfl) rfl ?_
  refine SPO_h rfl (y_load Tryz.isAgg89 rfl (by repeat (first | exact Cell.amid hpre rfl | exact Cell.head rfl | apply Cell.tail))) rfl ?_
  refine SPO_p rfl (y_len_l Tryz.underlying89 rfl) rfl ?_
  refine SPO_p rfl (y_conv Tryz.underlying3 Tryz.underlying5 rfl rfl) rfl ?_
  refine SPO_z (k := 0) rfl rfl (SP1_sliceN (l := ([u8 f.nparams, u8 f.nslots, u8 f.ups.length] : List Int).map u8V) el_67 rfl (by kernel_rfl) rfl rfl ?_)
  intro b58
  refine SPO_z (k := 0) rfl rfl (SP1_call (cl_put cb _ _ _ _ _ ba2 bc2 sb2 b2 [u8 f.nparams, u8 f.nslots, u8 f.ups.length] _ _ 5 hA2 (by simp only [List.length_append, List.length_cons, List.length_nil, p16, layU, layI] at *; omega)) Tryz.call74 rfl rfl (by repeat (first | exact Part.nil _ | (apply Part.cons; with_reducible (first | exact P0 | exact P1 | exact P2 | exact P3 | exact P4 | exact P5 | exact P6 | exact P7 | exact P8 | exact P9 | exact P10 | exact P11 | exact P12 | exact P13 | exact P14 | exact P15 | exact P16 | exact P17 | exact P18 | exact P19 | exact P20 | exact P21 | exact P22 | exact P23)) | (apply Part.flat; simp only [List.cons_append, List.nil_append]) | (apply Part.cons; (first | exact P0 | exact P1 | exact P2 | exact P3 | exact P4 | exact P5 | exact P6 | exact P7 | exact P8 | exact P9 | exact P10 | exact P11 | exact P12 | exact P13 | exact P14 | exact P15 | exact P16 | exact P17 | exact P18 | exact P19 | exact P20 | exact P21 | exact P22 | exact P23)) | (apply Part.nilc))) ?_)
  rintro v post H' ⟨rfl, ba3, bc3, sb3, hA3, rfl⟩ hH
  try simp only [List.cons_append, List.nil_append] at hH
  subst hH
  refine SPO_nil ?_
  refine thenP_n ?_
  refine SP_seq ?_
  refine SP_seq ?_
  refine SP_region ?_
  refine SPL_y (y_move rfl) rfl ?_
  refine SPL_y (y_nil rfl) rfl ?_
  refine SPL_y (y_fa fld_96_5 rfl) rfl ?_
  refine SPL_y (y_load Tryz.isAgg89 rfl (by repeat (first | exact Cell.amid hpre rfl | exact Cell.head rfl | apply Cell.tail))) rfl ?_
  refine SPL_y (y_len_l Tryz.underlying89 rfl) rfl ?_
  refine SPL_y (y_move rfl) rfl ?_
  refine SPL_nil ?_
  refine thenP_n ?_
  refine SP_block ?_
  refine SP_loop (G := Nat × Option Addr × Nat × Seg × List Int) (fun g => f.ups.length - g.1) (fun g => [(0, pt cb), (31, I np), (32, I j), (3, I j), (4, .pointer (some ⟨fb, 0 + ((j : Nat) : Int).toNat * 11, none⟩)), (63, .slice ua f.ups.length uc), (64, I f.ups.length), (65, I g.1)]) (fun g => [crest cb fb pv dv np g.2.1 g.2.2.2.2.length g.2.2.1, blk fb 96 (c0 ++ [cv, pv0, I f.nparams, .slice la f.locals.length lc, I f.nslots, .slice ua f.ups.length uc, .slice ka f.consts.length kc, mn, ms, .slice oa f.code.length oc, .slice qa f.loops.length qc] ++ c2), s0, ls, us, ks, sn, ss, os, qs, ql, s2, g.2.2.2.1]) (fun g => g.1 ≤ f.ups.length ∧ Arr 5 1 g.2.1 g.2.2.2.2.length g.2.2.1 (g.2.2.2.2.map u8V) g.2.2.2.1 ∧ g.2.2.2.2 = b2 ++ [u8 f.nparams, u8 f.nslots, u8 f.ups.length] ++ (f.ups.take g.1).flatMap layU ∧ g.2.2.2.2.length ≤ b2.length + 3 + 2 * g.1) ((0, ba3, bc3, sb3, b2 ++ [u8 f.nparams, u8 f.nslots, u8 f.ups.length])) (⟨Nat.zero_le _, hA3, by simp, by simp⟩) (by repeat (first | exact Sub.nil _ | refine Sub.cons rfl ?_)) (by repeat (first | exact Part.nil _ | (apply Part.cons; with_reducible (first | exact P0 | exact P1 | exact P2 | exact P3 | exact P4 | exact P5 | exact P6 | exact P7 | exact P8 | exact P9 | exact P10 | exact P11 | exact P12 | exact P13 | exact P14 | exact P15 | exact P16 | exact P17 | exact P18 | exact P19 | exact P20 | exact P21 | exact P22 | exact P23)) | (apply Part.flat; simp only [List.cons_append, List.nil_append]) | (apply Part.cons; (first | exact P0 | exact P1 | exact P2 | exact P3 | exact P4 | exact P5 | exact P6 | exact P7 | exact P8 | exact P9 | exact P10 | exact P11 | exact P12 | exact P13 | exact P14 | exact P15 | exact P16 | exact P17 | exact P18 | exact P19 | exact P20 | exact P21 | exact P22 | exact P23)) | (apply Part.nilc))) ?_
  rintro ⟨i, ba4, bc4, sb4, b4⟩ ⟨hi, hA4, hb4, hl4⟩
  dsimp only at hi hA4 hb4 hl4 ⊢
  refine SP_seq ?_
  refine SP_region ?_
  refine SPL_if (y_lss rfl rfl) rfl ?_ ?_
  · intro h9_0
    refine SPL_nil ?_
    refine thenP_n ?_
    refine SP_seq ?_
    refine SP_cond_t rfl ?_
    refine SP_skip ?_
    refine thenP_n ?_
    refine SP_seq ?_
    refine SP_block ?_
    refine SP_seq ?_
    have hil : i < f.ups.length := by omega
    obtain ⟨ub, usp, rfl, huc, husp, rfl⟩ := hup.row (by omega)
    obtain ⟨e, he⟩ : ∃ e, f.ups[i] = e := ⟨_, rfl⟩
    have hue : f.ups[i]? = some e := by rw [List.getElem?_eq_getElem hil, he]
    refine SP_region ?_
    refine SPL_y (y_ia Tryz.underlying89 Tryz.sizeOf159 rfl rfl (by omega)) rfl ?_
    refine SPL_y (y_loads Tryz.isAgg159 Tryz.sizeOf159 rfl rfl (by repeat (first | exact flat_cellsE upV_len rfl hil he | apply Cells.tail))) rfl ?_
    refine SPL_one rfl (SP1_alloc Tryz.zeroValue159 rfl rfl ?_)
    intro b6
    refine SPL_one rfl (SP1_storeAll Tryz.sizeOf159 rfl rfl rfl rfl rfl (by first | exact U0 | exact U1 | exact U2 | exact U3 | exact U4 | exact U5 | exact U6 | exact U7 | exact U8 | exact U9 | exact U10 | exact U11 | exact U12 | exact U13 | exact U14 | exact U15 | exact U16 | exact U17 | exact U18 | exact U19 | exact U20 | exact U21 | exact U22 | exact U23) (by rfl) ?_)
    refine SPL_nil ?_
    refine thenP_n ?_
    refine SP_region ?_
    refine SPL_y (y_move rfl) rfl ?_
    refine SPL_y (y_arr_all Tryz.underlying159 Tryz.sizeOf5 rfl) rfl ?_
    refine SPL_one rfl (SP1_call (cl_put cb _ _ _ _ _ ba4 bc4 sb4 b4 (layU e) b6 _ 159 hA4 (by simp only [List.length_append, List.length_cons, List.length_nil, p16, layU, layI] at *; omega)) Tryz.call74 rfl rfl (by repeat (first | exact Part.nil _ | (apply Part.cons; with_reducible (first | exact P0 | exact P1 | exact P2 | exact P3 | exact P4 | exact P5 | exact P6 | exact P7 | exact P8 | exact P9 | exact P10 | exact P11 | exact P12 | exact P13 | exact P14 | exact P15 | exact P16 | exact P17 | exact P18 | exact P19 | exact P20 | exact P21 | exact P22 | exact P23)) | (apply Part.flat; simp only [List.cons_append, List.nil_append]) | (apply Part.cons; (first | exact P0 | exact P1 | exact P2 | exact P3 | exact P4 | exact P5 | exact P6 | exact P7 | exact P8 | exact P9 | exact P10 | exact P11 | exact P12 | exact P13 | exact P14 | exact P15 | exact P16 | exact P17 | exact P18 | exact P19 | exact P20 | exact P21 | exact P22 | exact P23)) | (apply Part.nilc))) ?_)
    rintro v post H' ⟨rfl, ba5, bc5, sb5, hA5, rfl⟩ hH
    try simp only [List.cons_append, List.nil_append] at hH
    subst hH
    refine SPL_nil ?_
    refine inBlockP_n ?_
    refine thenP_n ?_
    refine SP_region ?_
    refine SPL_y (y_add rfl rfl (by omega)) rfl ?_
    refine SPL_y (y_move rfl) rfl ?_
    refine SPL_nil ?_
    refine thenP_n ?_
    exact Again.intro ((i + 1, ba5, bc5, sb5, b4 ++ layU e)) (⟨by dsimp only; omega, hA5, by dsimp only; rw [take_flat hue, hb4]; simp, by dsimp only; simp only [List.length_append, layU, List.length_cons, List.length_nil]; omega⟩) (by dsimp only; omega) (by repeat (first | exact Sub.nil _ | refine Sub.cons rfl ?_)) (by repeat (first | exact Part.nil _ | (apply Part.cons; with_reducible (first | exact P0 | exact P1 | exact P2 | exact P3 | exact P4 | exact P5 | exact P6 | exact P7 | exact P8 | exact P9 | exact P10 | exact P11 | exact P12 | exact P13 | exact P14 | exact P15 | exact P16 | exact P17 | exact P18 | exact P19 | exact P20 | exact P21 | exact P22 | exact P23)) | (apply Part.flat; simp only [List.cons_append, List.nil_append]) | (apply Part.cons; (first | exact P0 | exact P1 | exact P2 | exact P3 | exact P4 | exact P5 | exact P6 | exact P7 | exact P8 | exact P9 | exact P10 | exact P11 | exact P12 | exact P13 | exact P14 | exact P15 | exact P16 | exact P17 | exact P18 | exact P19 | exact P20 | exact P21 | exact P22 | exact P23)) | (apply Part.nilc)))
  intro h9_0
  refine SPL_nil ?_
  refine thenP_n ?_
  refine SP_seq ?_
  refine SP_cond_f rfl ?_
  refine SP_exit ?_
  refine thenP_exit ?_
  refine thenP_exit ?_
  refine inBlockP_hit ?_
  refine thenP_n ?_
  refine SP_seq ?_
  obtain rfl : i = f.ups.length := by omega
  have hb4e := hb4
  refine SP_region ?_
  refine SPL_y (y_move rfl) rfl ?_
  refine SPL_y (y_move rfl) rfl ?_
  refine SPL_y (y_nil rfl) rfl ?_
  refine SPL_y (y_fa fld_96_6 rfl) rfl ?_
  refine SPL_y (y_load Tryz.isAgg90 rfl (by repeat (first | exact Cell.amid hpre rfl | exact Cell.head rfl | apply Cell.tail))) rfl ?_
  refine SPL_y (y_len_l Tryz.underlying90 rfl) rfl ?_
  refine SPL_one rfl (SP1_call (cl_put16 cb _ _ _ _ _ ba4 bc4 sb4 b4 (f.consts.length) hA4 (by simp only [List.length_append, List.length_cons, List.length_nil, p16, layU, layI] at *; omega)) Tryz.call75 rfl rfl (by repeat (first | exact Part.nil _ | (apply Part.cons; with_reducible (first | exact P0 | exact P1 | exact P2 | exact P3 | exact P4 | exact P5 | exact P6 | exact P7 | exact P8 | exact P9 | exact P10 | exact P11 | exact P12 | exact P13 | exact P14 | exact P15 | exact P16 | exact P17 | exact P18 | exact P19 | exact P20 | exact P21 | exact P22 | exact P23)) | (apply Part.flat; simp only [List.cons_append, List.nil_append]) | (apply Part.cons; (first | exact P0 | exact P1 | exact P2 | exact P3 | exact P4 | exact P5 | exact P6 | exact P7 | exact P8 | exact P9 | exact P10 | exact P11 | exact P12 | exact P13 | exact P14 | exact P15 | exact P16 | exact P17 | exact P18 | exact P19 | exact P20 | exact P21 | exact P22 | exact P23)) | (apply Part.nilc))) ?_)
  rintro v post H' ⟨rfl, ba6, bc6, sb6, hA6, rfl⟩ hH
  try simp only [List.cons_append, List.nil_append] at hH
  subst hH
  refine SPL_nil ?_
  refine thenP_n ?_
  refine SP_seq ?_
  refine SP_seq ?_
  refine SP_region ?_
  refine SPL_y (y_move rfl) rfl ?_
  refine SPL_y (y_nil rfl) rfl ?_
  refine SPL_y (y_fa fld_96_6 rfl) rfl ?_
  refine SPL_y (y_load Tryz.isAgg90 rfl (by repeat (first | exact Cell.amid hpre rfl | exact Cell.head rfl | apply Cell.tail))) rfl ?_
  refine SPL_y (y_len_l Tryz.underlying90 rfl) rfl ?_
  refine SPL_y (y_move rfl) rfl ?_
  refine SPL_nil ?_
  refine thenP_n ?_
  refine SP_block ?_
  refine SP_loop (G := Nat × Option Addr × Nat × Seg × List Int) (fun g => f.consts.length - g.1) (fun g => [(0, pt cb), (31, I np), (32, I j), (3, I j), (4, .pointer (some ⟨fb, 0 + ((j : Nat) : Int).toNat * 11, none⟩)), (83, .slice ka f.consts.length kc), (84, I f.consts.length), (85, I g.1)]) (fun g => [crest cb fb pv dv np g.2.1 g.2.2.2.2.length g.2.2.1, blk fb 96 (c0 ++ [cv, pv0, I f.nparams, .slice la f.locals.length lc, I f.nslots, .slice ua f.ups.length uc, .slice ka f.consts.length kc, mn, ms, .slice oa f.code.length oc, .slice qa f.loops.length qc] ++ c2), s0, ls, us, ks, sn, ss, os, qs, ql, s2, g.2.2.2.1]) (fun g => g.1 ≤ f.consts.length ∧ Arr 5 1 g.2.1 g.2.2.2.2.length g.2.2.1 (g.2.2.2.2.map u8V) g.2.2.2.1 ∧ g.2.2.2.2 = b4 ++ p16 f.consts.length ++ (f.consts.take g.1).flatMap layC ∧ g.2.2.2.2.length ≤ b4.length + 2 + g.1 * 1000002) ((0, ba6, bc6, sb6, b4 ++ p16 f.consts.length)) (⟨Nat.zero_le _, hA6, by simp, by simp [p16]⟩) (by repeat (first | exact Sub.nil _ | refine Sub.cons rfl ?_)) (by repeat (first | exact Part.nil _ | (apply Part.cons; with_reducible (first | exact P0 | exact P1 | exact P2 | exact P3 | exact P4 | exact P5 | exact P6 | exact P7 | exact P8 | exact P9 | exact P10 | exact P11 | exact P12 | exact P13 | exact P14 | exact P15 | exact P16 | exact P17 | exact P18 | exact P19 | exact P20 | exact P21 | exact P22 | exact P23)) | (apply Part.flat; simp only [List.cons_append, List.nil_append]) | (apply Part.cons; (first | exact P0 | exact P1 | exact P2 | exact P3 | exact P4 | exact P5 | exact P6 | exact P7 | exact P8 | exact P9 | exact P10 | exact P11 | exact P12 | exact P13 | exact P14 | exact P15 | exact P16 | exact P17 | exact P18 | exact P19 | exact P20 | exact P21 | exact P22 | exact P23)) | (apply Part.nilc))) ?_
  rintro ⟨i, ba7, bc7, sb7, b7⟩ ⟨hi, hA7, hb7, hl7⟩
  dsimp only at hi hA7 hb7 hl7 ⊢
  refine SP_seq ?_
  refine SP_region ?_
  refine SPL_ifn (y_lss rfl rfl) rfl ?_ ?_
  · intro h15_0
    refine SPL_nil ?_
    refine thenP_n ?_
    refine SP_seq ?_
    refine SP_cond_f rfl ?_
    refine SP_exit ?_
    refine thenP_exit ?_
    refine thenP_exit ?_
    refine inBlockP_hit ?_
    refine thenP_n ?_
    refine SP_seq ?_
    obtain rfl : i = f.consts.length := by omega
    have hb7e := hb7
    refine SP_region ?_
    refine SPL_y (y_move rfl) rfl ?_
    refine SPL_y (y_move rfl) rfl ?_
    refine SPL_y (y_nil rfl) rfl ?_
    refine SPL_y (y_fa fld_96_9 rfl) rfl ?_
    refine SPL_y (y_load Tryz.isAgg93 rfl (by repeat (first | exact Cell.amid hpre rfl | exact Cell.head rfl | apply Cell.tail))) rfl ?_
    refine SPL_y (y_len_l Tryz.underlying93 rfl) rfl ?_
    refine SPL_one rfl (SP1_call (cl_put16 cb _ _ _ _ _ ba7 bc7 sb7 b7 (f.code.length) hA7 (by simp only [List.length_append, List.length_cons, List.length_nil, p16, layU, layI] at *; omega)) Tryz.call75 rfl rfl (by repeat (first | exact Part.nil _ | (apply Part.cons; with_reducible (first | exact P0 | exact P1 | exact P2 | exact P3 | exact P4 | exact P5 | exact P6 | exact P7 | exact P8 | exact P9 | exact P10 | exact P11 | exact P12 | exact P13 | exact P14 | exact P15 | exact P16 | exact P17 | exact P18 | exact P19 | exact P20 | exact P21 | exact P22 | exact P23)) | (apply Part.flat; simp only [List.cons_append, List.nil_append]) | (apply Part.cons; (first | exact P0 | exact P1 | exact P2 | exact P3 | exact P4 | exact P5 | exact P6 | exact P7 | exact P8 | exact P9 | exact P10 | exact P11 | exact P12 | exact P13 | exact P14 | exact P15 | exact P16 | exact P17 | exact P18 | exact P19 | exact P20 | exact P21 | exact P22 | exact P23)) | (apply Part.nilc))) ?_)
    rintro v post H' ⟨rfl, ba11, bc11, sb11, hA11, rfl⟩ hH
    try simp only [List.cons_append, List.nil_append] at hH
    subst hH
    refine SPL_nil ?_
    refine thenP_n ?_
    refine SP_seq ?_
    refine SP_region ?_
    refine SPL_y (y_move rfl) rfl ?_
    refine SPL_y (y_nil rfl) rfl ?_
    refine SPL_y (y_fa fld_96_9 rfl) rfl ?_
    refine SPL_y (y_load Tryz.isAgg93 rfl (by repeat (first | exact Cell.amid hpre rfl | exact Cell.head rfl | apply Cell.tail))) rfl ?_
    refine SPL_y (y_len_l Tryz.underlying93 rfl) rfl ?_
    refine SPL_y (y_move rfl) rfl ?_
    refine SPL_nil ?_
    refine thenP_n ?_
    refine SP_block ?_
    refine SP_loop (G := Nat × Option Addr × Nat × Seg × List Int) (fun g => f.code.length - g.1) (fun g => [(0, pt cb), (31, I np), (32, I j), (3, I j), (4, .pointer (some ⟨fb, 0 + ((j : Nat) : Int).toNat * 11, none⟩)), (136, .slice oa f.code.length oc), (137, I f.code.length), (138, I g.1)]) (fun g => [crest cb fb pv dv np g.2.1 g.2.2.2.2.length g.2.2.1, blk fb 96 (c0 ++ [cv, pv0, I f.nparams, .slice la f.locals.length lc, I f.nslots, .slice ua f.ups.length uc, .slice ka f.consts.length kc, mn, ms, .slice oa f.code.length oc, .slice qa f.loops.length qc] ++ c2), s0, ls, us, ks, sn, ss, os, qs, ql, s2, g.2.2.2.1]) (fun g => g.1 ≤ f.code.length ∧ Arr 5 1 g.2.1 g.2.2.2.2.length g.2.2.1 (g.2.2.2.2.map u8V) g.2.2.2.1 ∧ g.2.2.2.2 = b7 ++ p16 f.code.length ++ (f.code.take g.1).flatMap layI ∧ g.2.2.2.2.length ≤ b7.length + 2 + g.1 * 3) ((0, ba11, bc11, sb11, b7 ++ p16 f.code.length)) (⟨Nat.zero_le _, hA11, by simp, by simp [p16]⟩) (by repeat (first | exact Sub.nil _ | refine Sub.cons rfl ?_)) (by repeat (first | exact Part.nil _ | (apply Part.cons; with_reducible (first | exact P0 | exact P1 | exact P2 | exact P3 | exact P4 | exact P5 | exact P6 | exact P7 | exact P8 | exact P9 | exact P10 | exact P11 | exact P12 | exact P13 | exact P14 | exact P15 | exact P16 | exact P17 | exact P18 | exact P19 | exact P20 | exact P21 | exact P22 | exact P23)) | (apply Part.flat; simp only [List.cons_append, List.nil_append]) | (apply Part.cons; (first | exact P0 | exact P1 | exact P2 | exact P3 | exact P4 | exact P5 | exact P6 | exact P7 | exact P8 | exact P9 | exact P10 | exact P11 | exact P12 | exact P13 | exact P14 | exact P15 | exact P16 | exact P17 | exact P18 | exact P19 | exact P20 | exact P21 | exact P22 | exact P23)) | (apply Part.nilc))) ?_
    rintro ⟨i, ba12, bc12, sb12, b12⟩ ⟨hi, hA12, hb12, hl12⟩
    dsimp only at hi hA12 hb12 hl12 ⊢
    refine SP_seq ?_
    refine SP_region ?_
    refine SPL_ifn (y_lss rfl rfl) rfl ?_ ?_
    · intro h29_0
      refine SPL_nil ?_
      refine thenP_n ?_
      refine SP_seq ?_
      refine SP_cond_f rfl ?_
      refine SP_exit ?_
      refine thenP_exit ?_
      refine thenP_exit ?_
      refine inBlockP_hit ?_
      refine inBlockP_n ?_
      refine thenP_n ?_
      obtain rfl : i = f.code.length := by omega
      refine SP_region ?_
      refine SPL_y (y_add rfl rfl (by omega)) rfl ?_
      refine SPL_y (y_move rfl) rfl ?_
      refine SPL_nil ?_
      refine thenP_n ?_
      exact Again.intro ((j + 1, ba12, bc12, sb12, b12)) (⟨by dsimp only; omega, hA12, by dsimp only; rw [hb12, take_flat hf, hb7e, hb4e, hb2, layFn]; simp only [List.take_length, List.append_assoc]; rfl, by dsimp only; rw [hb12, hb7e, hb4e]; have := layFn_len f hokf; unfold layFn at this; simp only [List.length_append, List.take_length] at this ⊢; omega⟩) (by dsimp only; omega) (by repeat (first | exact Sub.nil _ | refine Sub.cons rfl ?_)) (by repeat (first | exact Part.nil _ | (apply Part.cons; with_reducible (first | exact P0 | exact P1 | exact P2 | exact P3 | exact P4 | exact P5 | exact P6 | exact P7 | exact P8 | exact P9 | exact P10 | exact P11 | exact P12 | exact P13 | exact P14 | exact P15 | exact P16 | exact P17 | exact P18 | exact P19 | exact P20 | exact P21 | exact P22 | exact P23)) | (apply Part.flat; simp only [List.cons_append, List.nil_append]) | (apply Part.cons; (first | exact P0 | exact P1 | exact P2 | exact P3 | exact P4 | exact P5 | exact P6 | exact P7 | exact P8 | exact P9 | exact P10 | exact P11 | exact P12 | exact P13 | exact P14 | exact P15 | exact P16 | exact P17 | exact P18 | exact P19 | exact P20 | exact P21 | exact P22 | exact P23)) | (apply Part.nilc)))
    intro h29_0
    refine SPL_nil ?_
    refine thenP_n ?_
    refine SP_seq ?_
    refine SP_cond_t rfl ?_
    refine SP_skip ?_
    refine thenP_n ?_
    refine SP_seq ?_
    refine SP_block ?_
    refine SP_seq ?_
    have hil : i < f.code.length := by omega
    obtain ⟨ob, osp, rfl, hoc, hosp, rfl⟩ := hcd.row (by omega)
    obtain ⟨c, hc⟩ : ∃ c, f.code[i] = c := ⟨_, rfl⟩
    have hce : f.code[i]? = some c := by rw [List.getElem?_eq_getElem hil, hc]
    refine SP_region ?_
    refine SPL_y (y_ia Tryz.underlying93 Tryz.sizeOf99 rfl rfl (by omega)) rfl ?_
    refine SPL_y (y_loads Tryz.isAgg99 Tryz.sizeOf99 rfl rfl (by repeat (first | exact flat_cellsE insV_len rfl hil hc | apply Cells.tail))) rfl ?_
    refine SPL_one rfl (SP1_alloc Tryz.zeroValue99 rfl rfl ?_)
    intro b11
    refine SPL_one rfl (SP1_storeAll Tryz.sizeOf99 rfl rfl rfl rfl rfl (by first | exact U0 | exact U1 | exact U2 | exact U3 | exact U4 | exact U5 | exact U6 | exact U7 | exact U8 | exact U9 | exact U10 | exact U11 | exact U12 | exact U13 | exact U14 | exact U15 | exact U16 | exact U17 | exact U18 | exact U19 | exact U20 | exact U21 | exact U22 | exact U23) (by rfl) ?_)
    refine SPL_nil ?_
    refine thenP_n ?_
    refine SP_region ?_
    refine SPL_y (y_move rfl) rfl ?_
    refine SPL_y (y_fa fld_99_0 rfl) rfl ?_
    refine SPL_y (y_load Tryz.isAgg5 rfl (by repeat (first | exact Cell.amid hpre rfl | exact Cell.head rfl | apply Cell.tail))) rfl ?_
    refine SPL_y (y_fa fld_99_1 rfl) rfl ?_
    refine SPL_y (y_load Tryz.isAgg97 rfl (by repeat (first | exact Cell.amid hpre rfl | exact Cell.head rfl | apply Cell.tail))) rfl ?_
    refine SPL_y (y_conv Tryz.underlying97 Tryz.underlying5 rfl rfl) rfl ?_
    refine SPL_y (y_fa fld_99_1 rfl) rfl ?_
    refine SPL_y (y_load Tryz.isAgg97 rfl (by repeat (first | exact Cell.amid hpre rfl | exact Cell.head rfl | apply Cell.tail))) rfl ?_
    refine SPL_y (y_shr rfl rfl (by first | omega | decide) rfl) rfl ?_
    refine SPL_y (y_conv Tryz.underlying97 Tryz.underlying5 rfl rfl) rfl ?_
    refine SPL_one rfl (SP1_sliceN (l := (layI c).map u8V) el_67 rfl (by kernel_rfl) rfl rfl ?_)
    intro b152
    refine SPL_one rfl (SP1_call (cl_put cb _ _ _ _ _ ba12 bc12 sb12 b12 (layI c) _ _ 5 hA12 (by simp only [List.length_append, List.length_cons, List.length_nil, p16, layU, layI] at *; omega)) Tryz.call74 rfl rfl (by repeat (first | exact Part.nil _ | (apply Part.cons; with_reducible (first | exact P0 | exact P1 | exact P2 | exact P3 | exact P4 | exact P5 | exact P6 | exact P7 | exact P8 | exact P9 | exact P10 | exact P11 | exact P12 | exact P13 | exact P14 | exact P15 | exact P16 | exact P17 | exact P18 | exact P19 | exact P20 | exact P21 | exact P22 | exact P23)) | (apply Part.flat; simp only [List.cons_append, List.nil_append]) | (apply Part.cons; (first | exact P0 | exact P1 | exact P2 | exact P3 | exact P4 | exact P5 | exact P6 | exact P7 | exact P8 | exact P9 | exact P10 | exact P11 | exact P12 | exact P13 | exact P14 | exact P15 | exact P16 | exact P17 | exact P18 | exact P19 | exact P20 | exact P21 | exact P22 | exact P23)) | (apply Part.nilc))) ?_)
    rintro v post H' ⟨rfl, ba13, bc13, sb13, hA13, rfl⟩ hH
    try simp only [List.cons_append, List.nil_append] at hH
    subst hH
    refine SPL_nil ?_
    refine inBlockP_n ?_
    refine thenP_n ?_
    refine SP_region ?_
    refine SPL_y (y_add rfl rfl (by omega)) rfl ?_
    refine SPL_y (y_move rfl) rfl ?_
    refine SPL_nil ?_
    refine thenP_n ?_
    exact Again.intro ((i + 1, ba13, bc13, sb13, b12 ++ layI c)) (⟨by dsimp only; omega, hA13, by dsimp only; rw [take_flat hce, hb12]; simp, by dsimp only; simp only [List.length_append, layI, List.length_cons, List.length_nil]; omega⟩) (by dsimp only; omega) (by repeat (first | exact Sub.nil _ | refine Sub.cons rfl ?_)) (by repeat (first | exact Part.nil _ | (apply Part.cons; with_reducible (first | exact P0 | exact P1 | exact P2 | exact P3 | exact P4 | exact P5 | exact P6 | exact P7 | exact P8 | exact P9 | exact P10 | exact P11 | exact P12 | exact P13 | exact P14 | exact P15 | exact P16 | exact P17 | exact P18 | exact P19 | exact P20 | exact P21 | exact P22 | exact P23)) | (apply Part.flat; simp only [List.cons_append, List.nil_append]) | (apply Part.cons; (first | exact P0 | exact P1 | exact P2 | exact P3 | exact P4 | exact P5 | exact P6 | exact P7 | exact P8 | exact P9 | exact P10 | exact P11 | exact P12 | exact P13 | exact P14 | exact P15 | exact P16 | exact P17 | exact P18 | exact P19 | exact P20 | exact P21 | exact P22 | exact P23)) | (apply Part.nilc)))
  intro h15_0
  refine SPL_nil ?_
  refine thenP_n ?_
  refine SP_seq ?_
  refine SP_cond_t rfl ?_
  refine SP_skip ?_
  refine thenP_n ?_
  refine SP_seq ?_
  refine SP_block ?_
  refine SP_seq ?_
  have hil : i < f.consts.length := by omega
  obtain ⟨kb, ksp, rfl, hkc, hksp, rfl⟩ := hco.row (by omega)
  obtain ⟨v, hv⟩ : ∃ v, f.consts[i] = v := ⟨_, rfl⟩
  have hve : f.consts[i]? = some v := by rw [List.getElem?_eq_getElem hil, hv]
  have hvl : v.s.length < 1000000 := of_decide_eq_true (List.all_eq_true.1 hok4 v (List.mem_of_getElem? hve))
  refine SP_region ?_
  refine SPL_y (y_ia Tryz.underlying90 Tryz.sizeOf42 rfl rfl (by omega)) rfl ?_
  refine SPL_y (y_loads Tryz.isAgg42 Tryz.sizeOf42 rfl rfl (by repeat (first | exact flat_cellsE valV_len rfl hil hv | apply Cells.tail))) rfl ?_
  refine SPL_one rfl (SP1_alloc Tryz.zeroValue42 rfl rfl ?_)
  intro b8
  refine SPL_one rfl (SP1_storeAll Tryz.sizeOf42 rfl rfl rfl rfl rfl (by first | exact U0 | exact U1 | exact U2 | exact U3 | exact U4 | exact U5 | exact U6 | exact U7 | exact U8 | exact U9 | exact U10 | exact U11 | exact U12 | exact U13 | exact U14 | exact U15 | exact U16 | exact U17 | exact U18 | exact U19 | exact U20 | exact U21 | exact U22 | exact U23) (by rfl) ?_)
  refine SPL_nil ?_
  refine thenP_n ?_
  refine SP_seq ?_
  refine SP_region ?_
  refine SPL_y (y_fa fld_42_0 rfl) rfl ?_
  refine SPL_y (y_load Tryz.isAgg3 rfl (by repeat (first | exact Cell.amid hpre rfl | exact Cell.head rfl | apply Cell.tail))) rfl ?_
  refine SPL_ifn (y_eql rfl rfl) rfl ?_ ?_
  · intro h17_2
    refine SPL_nil ?_
    refine thenP_n ?_
    refine SP_cond_f rfl ?_
    refine SP_seq ?_
    refine SP_region ?_
    refine SPL_y (y_move rfl) rfl ?_
    refine SPL_y (y_fa fld_42_2 rfl) rfl ?_
    refine SPL_y (y_load Tryz.isAgg9 rfl (by repeat (first | exact Cell.amid hpre rfl | exact Cell.head rfl | apply Cell.tail))) rfl ?_
    refine SPL_y (y_len_s Tryz.underlying9 rfl) rfl ?_
    refine SPL_y (y_conv Tryz.underlying3 Tryz.underlying5 rfl rfl) rfl ?_
    refine SPL_one rfl (SP1_slice12 el_67 rfl rfl rfl rfl rfl ?_)
    intro b113
    refine SPL_one rfl (SP1_call (cl_put cb _ _ _ _ _ ba7 bc7 sb7 b7 [2, u8 v.s.length] _ _ 5 hA7 (by simp only [List.length_append, List.length_cons, List.length_nil, p16, layU, layI] at *; omega)) Tryz.call74 rfl rfl (by repeat (first | exact Part.nil _ | (apply Part.cons; with_reducible (first | exact P0 | exact P1 | exact P2 | exact P3 | exact P4 | exact P5 | exact P6 | exact P7 | exact P8 | exact P9 | exact P10 | exact P11 | exact P12 | exact P13 | exact P14 | exact P15 | exact P16 | exact P17 | exact P18 | exact P19 | exact P20 | exact P21 | exact P22 | exact P23)) | (apply Part.flat; simp only [List.cons_append, List.nil_append]) | (apply Part.cons; (first | exact P0 | exact P1 | exact P2 | exact P3 | exact P4 | exact P5 | exact P6 | exact P7 | exact P8 | exact P9 | exact P10 | exact P11 | exact P12 | exact P13 | exact P14 | exact P15 | exact P16 | exact P17 | exact P18 | exact P19 | exact P20 | exact P21 | exact P22 | exact P23)) | (apply Part.nilc))) ?_)
    rintro v post H' ⟨rfl, ba8, bc8, sb8, hA8, rfl⟩ hH
    try simp only [List.cons_append, List.nil_append] at hH
    subst hH
    refine SPL_nil ?_
    refine thenP_n ?_
    refine SP_draw 7 [(0, 0), (1, 0), (2, 0), (3, 0), (5, 0), (4, 1), (6, 1), (7, 3), (8, 0), (9, 0), (10, 3)] mixed (by kernel_rfl) (fun _ _ _ _ _ h => h) (Part.refl _) ?_
    refine SPO_p rfl (y_move rfl) rfl ?_
    refine SPO_p rfl (y_move rfl) rfl ?_
    refine SPO_p rfl (y_nil rfl) rfl ?_
    refine SPO_p rfl (y_fa fld_69_5 rfl) rfl ?_
    refine SPO_p rfl (y_fa fld_42_2 rfl) rfl ?_
    refine SPO_h rfl (y_load Tryz.isAgg67 rfl (by repeat (first | exact Cell.amid hpre rfl | exact Cell.head rfl | apply Cell.tail))) rfl ?_
    refine SPO_h rfl (y_load Tryz.isAgg9 rfl (by repeat (first | exact Cell.amid hpre rfl | exact Cell.head rfl | apply Cell.tail))) rfl ?_
    refine SPO_z (k := 0) rfl rfl (SP1_append el_67 (.inr Tryz.underlying9) rfl rfl hA8 (by first | exact P0 | exact P1 | exact P2 | exact P3 | exact P4 | exact P5 | exact P6 | exact P7 | exact P8 | exact P9 | exact P10 | exact P11 | exact P12 | exact P13 | exact P14 | exact P15 | exact P16 | exact P17 | exact P18 | exact P19 | exact P20 | exact P21 | exact P22 | exact P23) Src.str (by rw [bytesV_str]; exact u8V_one _) (by simp only [List.length_append, List.length_cons, List.length_nil, p16, layU, layI] at *; omega) rfl ?_)
    intro ba14 bc14 sb14 hA14
    refine SPO_p rfl (y_nil rfl) rfl ?_
    refine SPO_p rfl (y_fa fld_69_5 rfl) rfl ?_
    refine SPO_z (k := 0) rfl rfl (SP1_store Tryz.sizeOf67 rfl rfl rfl (by first | exact U0 | exact U1 | exact U2 | exact U3 | exact U4 | exact U5 | exact U6 | exact U7 | exact U8 | exact U9 | exact U10 | exact U11 | exact U12 | exact U13 | exact U14 | exact U15 | exact U16 | exact U17 | exact U18 | exact U19 | exact U20 | exact U21 | exact U22 | exact U23) (by rfl) ?_)
    rw [bytesV_str, ← List.map_append] at hA14
    rw [show (b7 ++ [2, u8 v.s.length]).length + v.s.length = (b7 ++ [2, u8 v.s.length] ++ v.s.map (fun c => (c.toNat : Int))).length from by simp; omega] at hA14 ⊢
    refine SPO_nil ?_
    refine inBlockP_n ?_
    refine thenP_n ?_
    refine SP_region ?_
    refine SPL_y (y_add rfl rfl (by omega)) rfl ?_
    refine SPL_y (y_move rfl) rfl ?_
    refine SPL_nil ?_
    refine thenP_n ?_
    exact Again.intro ((i + 1, ba14, bc14, sb14, b7 ++ [2, u8 v.s.length] ++ v.s.map (fun c => (c.toNat : Int)))) (⟨by dsimp only; omega, hA14, by dsimp only; rw [take_flat hve, hb7, layC, if_neg h17_2]; simp, by dsimp only; simp; omega⟩) (by dsimp only; omega) (by repeat (first | exact Sub.nil _ | refine Sub.cons rfl ?_)) (by repeat (first | exact Part.nil _ | (apply Part.cons; with_reducible (first | exact P0 | exact P1 | exact P2 | exact P3 | exact P4 | exact P5 | exact P6 | exact P7 | exact P8 | exact P9 | exact P10 | exact P11 | exact P12 | exact P13 | exact P14 | exact P15 | exact P16 | exact P17 | exact P18 | exact P19 | exact P20 | exact P21 | exact P22 | exact P23)) | (apply Part.flat; simp only [List.cons_append, List.nil_append]) | (apply Part.cons; (first | exact P0 | exact P1 | exact P2 | exact P3 | exact P4 | exact P5 | exact P6 | exact P7 | exact P8 | exact P9 | exact P10 | exact P11 | exact P12 | exact P13 | exact P14 | exact P15 | exact P16 | exact P17 | exact P18 | exact P19 | exact P20 | exact P21 | exact P22 | exact P23)) | (apply Part.nilc)))
  intro h17_2
  refine SPL_nil ?_
  refine thenP_n ?_
  refine SP_cond_t rfl ?_
  refine SP_seq ?_
  refine SP_region ?_
  refine SPL_y (y_move rfl) rfl ?_
  refine SPL_one rfl (SP1_slice1 el_67 rfl rfl rfl rfl rfl ?_)
  intro b93
  refine SPL_one rfl (SP1_call (cl_put cb _ _ _ _ _ ba7 bc7 sb7 b7 [1] _ _ 5 hA7 (by simp only [List.length_append, List.length_cons, List.length_nil, p16, layU, layI] at *; omega)) Tryz.call74 rfl rfl (by repeat (first | exact Part.nil _ | (apply Part.cons; with_reducible (first | exact P0 | exact P1 | exact P2 | exact P3 | exact P4 | exact P5 | exact P6 | exact P7 | exact P8 | exact P9 | exact P10 | exact P11 | exact P12 | exact P13 | exact P14 | exact P15 | exact P16 | exact P17 | exact P18 | exact P19 | exact P20 | exact P21 | exact P22 | exact P23)) | (apply Part.flat; simp only [List.cons_append, List.nil_append]) | (apply Part.cons; (first | exact P0 | exact P1 | exact P2 | exact P3 | exact P4 | exact P5 | exact P6 | exact P7 | exact P8 | exact P9 | exact P10 | exact P11 | exact P12 | exact P13 | exact P14 | exact P15 | exact P16 | exact P17 | exact P18 | exact P19 | exact P20 | exact P21 | exact P22 | exact P23)) | (apply Part.nilc))) ?_)
  rintro v post H' ⟨rfl, ba8, bc8, sb8, hA8, rfl⟩ hH
  try simp only [List.cons_append, List.nil_append] at hH
  subst hH
  refine SPL_nil ?_
  refine thenP_n ?_
  refine SP_seq ?_
  refine SP_region ?_
  refine SPL_y (y_move rfl) rfl ?_
  refine SPL_nil ?_
  refine thenP_n ?_
  refine SP_block ?_
  refine SP_loop (G := Nat × Option Addr × Nat × Seg × List Int) (fun g => 8 - g.1) (fun g => [(0, pt cb), (31, I np), (32, I j), (3, I j), (4, .pointer (some ⟨fb, 0 + ((j : Nat) : Int).toNat * 11, none⟩)), (8, pt b8), (83, .slice (some ⟨kb, 0, none⟩) f.consts.length kc), (84, I f.consts.length), (85, I i), (95, I g.1)]) (fun g => [crest cb fb pv dv np g.2.1 g.2.2.2.2.length g.2.2.1, blk fb 96 (c0 ++ [cv, pv0, I f.nparams, .slice la f.locals.length lc, I f.nslots, .slice ua f.ups.length uc, .slice (some ⟨kb, 0, none⟩) f.consts.length kc, mn, ms, .slice oa f.code.length oc, .slice qa f.loops.length qc] ++ c2), s0, ls, us, blk kb 42 (f.consts.flatMap valV ++ ksp), sn, ss, os, qs, ql, s2, g.2.2.2.1, blk b8 42 (valV v)]) (fun g => g.1 ≤ 8 ∧ Arr 5 1 g.2.1 g.2.2.2.2.length g.2.2.1 (g.2.2.2.2.map u8V) g.2.2.2.1 ∧ g.2.2.2.2 = b7 ++ [1] ++ (List.range g.1).map (numB v.n)) ((0, ba8, bc8, sb8, b7 ++ [1])) (⟨by dsimp only; omega, hA8, by dsimp only; simp⟩) (by repeat (first | exact Sub.nil _ | refine Sub.cons rfl ?_)) (by repeat (first | exact Part.nil _ | (apply Part.cons; with_reducible (first | exact P0 | exact P1 | exact P2 | exact P3 | exact P4 | exact P5 | exact P6 | exact P7 | exact P8 | exact P9 | exact P10 | exact P11 | exact P12 | exact P13 | exact P14 | exact P15 | exact P16 | exact P17 | exact P18 | exact P19 | exact P20 | exact P21 | exact P22 | exact P23)) | (apply Part.flat; simp only [List.cons_append, List.nil_append]) | (apply Part.cons; (first | exact P0 | exact P1 | exact P2 | exact P3 | exact P4 | exact P5 | exact P6 | exact P7 | exact P8 | exact P9 | exact P10 | exact P11 | exact P12 | exact P13 | exact P14 | exact P15 | exact P16 | exact P17 | exact P18 | exact P19 | exact P20 | exact P21 | exact P22 | exact P23)) | (apply Part.nilc))) ?_
  rintro ⟨m, ba9, bc9, sb9, b9⟩ ⟨hm, hA9, hb9⟩
  dsimp only at hm hA9 hb9 ⊢
  have hl9 : b9.length = b7.length + 1 + m := by rw [hb9]; simp; omega
  refine SP_seq ?_
  refine SP_region ?_
  refine SPL_ifn (y_lss rfl rfl) rfl ?_ ?_
  · intro h20_0
    refine SPL_nil ?_
    refine thenP_n ?_
    refine SP_seq ?_
    refine SP_cond_f rfl ?_
    refine SP_exit ?_
    refine thenP_exit ?_
    refine thenP_exit ?_
    refine inBlockP_hit ?_
    refine inBlockP_n ?_
    refine thenP_n ?_
    obtain hm8 : m = 8 := by omega
    refine SP_region ?_
    refine SPL_y (y_add rfl rfl (by omega)) rfl ?_
    refine SPL_y (y_move rfl) rfl ?_
    refine SPL_nil ?_
    refine thenP_n ?_
    exact Again.intro ((i + 1, ba9, bc9, sb9, b9)) (⟨by dsimp only; omega, hA9, by dsimp only; rw [take_flat hve, hb9, hb7, layC, if_pos h17_2, hm8]; simp, by dsimp only; rw [hb9]; simp; omega⟩) (by dsimp only; omega) (by repeat (first | exact Sub.nil _ | refine Sub.cons rfl ?_)) (by repeat (first | exact Part.nil _ | (apply Part.cons; with_reducible (first | exact P0 | exact P1 | exact P2 | exact P3 | exact P4 | exact P5 | exact P6 | exact P7 | exact P8 | exact P9 | exact P10 | exact P11 | exact P12 | exact P13 | exact P14 | exact P15 | exact P16 | exact P17 | exact P18 | exact P19 | exact P20 | exact P21 | exact P22 | exact P23)) | (apply Part.flat; simp only [List.cons_append, List.nil_append]) | (apply Part.cons; (first | exact P0 | exact P1 | exact P2 | exact P3 | exact P4 | exact P5 | exact P6 | exact P7 | exact P8 | exact P9 | exact P10 | exact P11 | exact P12 | exact P13 | exact P14 | exact P15 | exact P16 | exact P17 | exact P18 | exact P19 | exact P20 | exact P21 | exact P22 | exact P23)) | (apply Part.nilc)))
  intro h20_0
  refine SPL_nil ?_
  refine thenP_n ?_
  refine SP_seq ?_
  refine SP_cond_t rfl ?_
  refine SP_skip ?_
  refine thenP_n ?_
  refine SP_seq ?_
  refine SP_block ?_
  refine SP_seq ?_
  refine SP_region ?_
  refine SPL_y (y_move rfl) rfl ?_
  refine SPL_y (y_assign rfl) rfl ?_
  refine SPL_nil ?_
  refine thenP_n ?_
  refine SP_region ?_
  refine SPL_y (y_move rfl) rfl ?_
  refine SPL_y (y_fa fld_42_1 rfl) rfl ?_
  refine SPL_y (y_load Tryz.isAgg40 rfl (by repeat (first | exact Cell.amid hpre rfl | exact Cell.head rfl | apply Cell.tail))) rfl ?_
  refine SPL_y (y_move rfl) rfl ?_
  refine SPL_y (y_mul rfl rfl (by omega)) rfl ?_
  refine SPL_y (y_shr rfl rfl (by first | omega | decide) rfl) rfl ?_
  refine SPL_y (y_conv Tryz.underlying40 Tryz.underlying5 rfl rfl) rfl ?_
  refine SPL_one rfl (SP1_slice1 el_67 rfl rfl rfl rfl rfl ?_)
  intro b105
  refine SPL_one rfl (SP1_call (cl_put cb _ _ _ _ _ ba9 bc9 sb9 b9 [numB v.n m] _ _ 5 hA9 (by simp only [List.length_append, List.length_cons, List.length_nil, p16, layU, layI] at *; omega)) Tryz.call74 rfl rfl (by repeat (first | exact Part.nil _ | (apply Part.cons; with_reducible (first | exact P0 | exact P1 | exact P2 | exact P3 | exact P4 | exact P5 | exact P6 | exact P7 | exact P8 | exact P9 | exact P10 | exact P11 | exact P12 | exact P13 | exact P14 | exact P15 | exact P16 | exact P17 | exact P18 | exact P19 | exact P20 | exact P21 | exact P22 | exact P23)) | (apply Part.flat; simp only [List.cons_append, List.nil_append]) | (apply Part.cons; (first | exact P0 | exact P1 | exact P2 | exact P3 | exact P4 | exact P5 | exact P6 | exact P7 | exact P8 | exact P9 | exact P10 | exact P11 | exact P12 | exact P13 | exact P14 | exact P15 | exact P16 | exact P17 | exact P18 | exact P19 | exact P20 | exact P21 | exact P22 | exact P23)) | (apply Part.nilc))) ?_)
  rintro v post H' ⟨rfl, ba10, bc10, sb10, hA10, rfl⟩ hH
  try simp only [List.cons_append, List.nil_append] at hH
  subst hH
  refine SPL_nil ?_
  refine inBlockP_n ?_
  refine thenP_n ?_
  refine SP_region ?_
  refine SPL_y (y_add rfl rfl (by omega)) rfl ?_
  refine SPL_y (y_move rfl) rfl ?_
  refine SPL_nil ?_
  refine thenP_n ?_
  exact Again.intro ((m + 1, ba10, bc10, sb10, b9 ++ [numB v.n m])) (⟨by dsimp only; omega, hA10, by dsimp only; rw [hb9, List.range_succ]; simp⟩) (by dsimp only; omega) (by repeat (first | exact Sub.nil _ | refine Sub.cons rfl ?_)) (by repeat (first | exact Part.nil _ | (apply Part.cons; with_reducible (first | exact P0 | exact P1 | exact P2 | exact P3 | exact P4 | exact P5 | exact P6 | exact P7 | exact P8 | exact P9 | exact P10 | exact P11 | exact P12 | exact P13 | exact P14 | exact P15 | exact P16 | exact P17 | exact P18 | exact P19 | exact P20 | exact P21 | exact P22 | exact P23)) | (apply Part.flat; simp only [List.cons_append, List.nil_append]) | (apply Part.cons; (first | exact P0 | exact P1 | exact P2 | exact P3 | exact P4 | exact P5 | exact P6 | exact P7 | exact P8 | exact P9 | exact P10 | exact P11 | exact P12 | exact P13 | exact P14 | exact P15 | exact P16 | exact P17 | exact P18 | exact P19 | exact P20 | exact P21 | exact P22 | exact P23)) | (apply Part.nilc)))

end Go.Sl
