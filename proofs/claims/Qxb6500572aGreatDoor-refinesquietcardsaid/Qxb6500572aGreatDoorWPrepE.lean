/- Walks: package prep, end (made by program out of short notes) -/
import Derived.Test.Qxb6500572aGreatDoorWPrepD
namespace Go.Sl
open Go Go.Wl Go.Proofs
set_option maxRecDepth 100000
set_option linter.unusedVariables false
set_option linter.unusedSimpArgs false
def fnVal : Value → Option Bool
  | .nilFunc => some false
  | .func _ _ _ => some true
  | _ => none
theorem y_fne' {P : Program} {n : Nat} {ρ : Env} {H : Hp} {ty t u : TypeId} {ps rs : Array TypeId} {vr : Bool} {x y : Operand} {v : Value} {c : Bool} (ht : P.underlying t = some (.func ps rs vr)) (hx : ev ρ x = some v) (hy : ev ρ y = some .nilFunc)
    (hc : fnVal v = some c) : Yo P n (.binOp .neq t x y u) ty ρ H (.bool c) := y_fne_nil ht hx hy (by cases v <;> first | exact hc | (simp [fnVal] at hc))
theorem alt_fn {k : Nat} {o : Option Nat} {v : Value} {s : Seg} (h : isAlt k o v s) : fnVal v = some o.isSome ∧ v.oneCell' = true := by
  cases o with
  | none => obtain ⟨rfl, _⟩ := h; exact ⟨rfl, rfl⟩
  | some a => obtain ⟨_, _, rfl, _⟩ := h; exact ⟨rfl, rfl⟩

theorem prep_leave (k : Nat) (pv uv mv : Value) (oa : Option Addr) (C : Chk) (s : Seg) (hm : isChk k pv uv mv oa C s) (hN : 0 < C.opn.length) (hht : C.top.height ≤ C.st.length) (hz : C.st.length ≤ 100000 ∧ C.opn.length ≤ 100000 ∧ C.code.length ≤ 100000) (hr : C.top.res.length ≤ 1000) (hw : ∀ b, b ∈ C.opn → b.wait.length ≤ 1000) (ha : ∀ a, C.top.alt = some a → a < C.code.length) (hwc : ∀ a, a ∈ C.top.wait → a < C.code.length) : Spec Tryz.prog 118 [.pointer (some ⟨k, 0, none⟩)] [s] (Ret fun v H => ∃ s', v = I (leave C).2 ∧ H = [s'] ∧ isChk k pv uv mv oa (leave C).1 s') := by
  refine Spec_enter Tryz.func118 rfl Tryz.ntmps118 rfl ?_
  show SP _ _ _ _ _ [(0, _)] _
  refine SP_seq ?_
  refine SP_region ?_
  refine SPL_y (y_assign rfl) rfl ?_
  refine SPL_nil ?_
  refine thenP_n ?_
  refine SP_seq ?_
  refine SP_region ?_
  refine SPL_y (y_move rfl) rfl ?_
  refine SPL_one rfl (SP1_call (prep_closes k pv uv mv oa C s hm hN hht ⟨by omega, by omega, by omega⟩ hr) Tryz.call144 rfl rfl (by repeat (first | exact Part.nil _ | (apply Part.cons; (first | exact P0 | exact P1 | exact P2 | exact P3 | exact P4 | exact P5 | exact P6 | exact P7 | exact P8 | exact P9 | exact P10 | exact P11 | exact P12 | exact P13 | exact P14 | exact P15 | exact P16 | exact P17 | exact P18 | exact P19 | exact P20 | exact P21 | exact P22 | exact P23)) | (apply Part.flat; simp only [List.cons_append, List.nil_append]) | (apply Part.nilc))) ?_)
  rintro v post H' ⟨s1', rfl, rfl, hm1⟩ hH
  try simp only [List.cons_append, List.nil_append] at hH
  subst hH
  generalize hP : closes C = P at *
  obtain ⟨C1, e1⟩ := P
  dsimp only at hm1 ⊢
  have hls := closes_eq hP
  have hN1 : 0 < C1.opn.length := by rw [hls.1]; exact hN
  have hz1 : C1.st.length ≤ 100000 ∧ C1.opn.length ≤ 100000 ∧ C1.code.length ≤ 100000 := ⟨by have := hls.2.2.1; omega, by rw [hls.1]; exact hz.2.1, by rw [hls.2.1]; exact hz.2.2⟩
  refine SPL_y (y_assign rfl) rfl ?_
  refine SPL_nil ?_
  refine thenP_n ?_
  refine SP_seq ?_
  obtain ⟨ta, tc, oc, ca, cc, st, so, sb, cd, cs, rfl, hst, hop, hob, hcd⟩ := hm1
  refine SP_open (pre := [_, _, _, _, _]) (by first | exact P0 | exact P1 | exact P2 | exact P3 | exact P4 | exact P5 | exact P6 | exact P7 | exact P8 | exact P9 | exact P10 | exact P11 | exact P12 | exact P13 | exact P14 | exact P15 | exact P16 | exact P17 | exact P18 | exact P19 | exact P20 | exact P21 | exact P22 | exact P23) ?_
  simp only [List.cons_append, List.nil_append]
  obtain ⟨bo, spo, hbo, hoc, hspo, rfl⟩ := hop.row (by omega)
  obtain rfl := hbo
  obtain ⟨la, c7, lb, s1, sv, s2, rfl, hla, rfl, hbk, hpre, hput⟩ := hob.get (i := C1.opn.length - 1) (by omega)
  obtain ⟨b, hb⟩ : ∃ b, C1.opn[C1.opn.length - 1] = b := ⟨_, rfl⟩
  rw [hb] at hbk
  obtain ⟨fa, wa, wc, vs, sa, sw, sh, rfl, rfl, halt, hwa, hho⟩ := hbk
  have htop1 : C1.top = b := by rw [top_eq hN1, hb]
  have htop : C.top = b := by rw [← htop1, hls.top]
  have hbl : b.wait.length ≤ 1000 := hw b (by rw [← hls.1, ← hb]; exact List.getElem_mem _)
  rw [htop] at ha hwc hr
  rw [← hls.2.1] at ha hwc
  obtain ⟨hfc, hf1⟩ := alt_fn halt
  have hone : [S b.res, S b.carry, I b.height, I b.head, .bool b.dead, fa, .slice wa b.wait.length wc].all Value.oneCell' = true := by
    rw [List.all_eq_true]; intro x hx; simp only [List.mem_cons, List.not_mem_nil, or_false] at hx
    rcases hx with rfl | rfl | rfl | rfl | rfl | rfl | rfl <;> first | rfl | exact hf1
  refine SP_draw 13 [(0, 0), (1, 0), (2, 0), (4, 0), (5, 0), (6, 0), (3, 1), (7, 1), (8, 0), (9, 0), (10, 0), (11, 1), (12, 2), (13, 3)] mixed (by kernel_rfl) (fun _ _ _ _ _ h => h) (Part.refl _) ?_
  refine SPO_p rfl (y_move rfl) rfl ?_
  refine SPO_p rfl (y_nil rfl) rfl ?_
  refine SPO_p rfl (y_fa fld_191_3 rfl) rfl ?_
  refine SPO_p rfl (y_move rfl) rfl ?_
  refine SPO_p rfl (y_nil rfl) rfl ?_
  refine SPO_p rfl (y_fa fld_191_3 rfl) rfl ?_
  refine SPO_h rfl (y_load Tryz.isAgg188 rfl (by repeat (first | exact Cell.head rfl | apply Cell.tail))) rfl ?_
  refine SPO_h rfl (y_load Tryz.isAgg188 rfl (by repeat (first | exact Cell.head rfl | apply Cell.tail))) rfl ?_
  refine SPO_p rfl (y_len_l Tryz.underlying188 rfl) rfl ?_
  refine SPO_p rfl (y_sub rfl rfl (by omega)) rfl ?_
  refine SPO_p rfl (y_ia Tryz.underlying188 Tryz.sizeOf230 rfl rfl (by omega)) rfl ?_
  refine SPO_h rfl (y_loads Tryz.isAgg230 Tryz.sizeOf230 rfl rfl (by repeat (first | exact mid_cells (i := C1.opn.length - 1) (by omega) hla rfl | apply Cells.tail))) rfl ?_
  refine SPO_a rfl rfl (SP1_alloc Tryz.zeroValue230 rfl rfl ?_)
  intro b4
  refine ⟨⟨_, (by repeat (first | exact Part.nil _ | (apply Part.cons; (first | exact P0 | exact P1 | exact P2 | exact P3 | exact P4 | exact P5 | exact P6 | exact P7 | exact P8 | exact P9 | exact P10 | exact P11 | exact P12 | exact P13 | exact P14 | exact P15 | exact P16 | exact P17 | exact P18 | exact P19 | exact P20 | exact P21 | exact P22 | exact P23)) | (apply Part.flat; simp only [List.cons_append, List.nil_append]) | (apply Part.nilc)))⟩, ?_⟩
  refine SPO_z (k := 0) rfl rfl (SP1_storeAll Tryz.sizeOf230 rfl rfl rfl rfl hone (by first | exact U0 | exact U1 | exact U2 | exact U3 | exact U4 | exact U5 | exact U6 | exact U7 | exact U8 | exact U9 | exact U10 | exact U11 | exact U12 | exact U13 | exact U14 | exact U15 | exact U16 | exact U17 | exact U18 | exact U19 | exact U20 | exact U21 | exact U22 | exact U23) (by rfl) ?_)
  refine SPO_nil ?_
  refine thenP_n ?_
  refine SP_seq ?_
  refine SP_draw 14 [(0, 0), (1, 0), (2, 0), (3, 0), (5, 0), (6, 0), (7, 0), (4, 1), (8, 1), (9, 0), (10, 0), (11, 0), (12, 0), (13, 0), (14, 3)] mixed (by kernel_rfl) (fun _ _ _ _ _ h => h) (Part.refl _) ?_
  refine SPO_p rfl (y_move rfl) rfl ?_
  refine SPO_p rfl (y_move rfl) rfl ?_
  refine SPO_p rfl (y_nil rfl) rfl ?_
  refine SPO_p rfl (y_fa fld_191_3 rfl) rfl ?_
  refine SPO_p rfl (y_move rfl) rfl ?_
  refine SPO_p rfl (y_nil rfl) rfl ?_
  refine SPO_p rfl (y_fa fld_191_3 rfl) rfl ?_
  refine SPO_h rfl (y_load Tryz.isAgg188 rfl (by repeat (first | exact Cell.head rfl | apply Cell.tail))) rfl ?_
  refine SPO_h rfl (y_load Tryz.isAgg188 rfl (by repeat (first | exact Cell.head rfl | apply Cell.tail))) rfl ?_
  refine SPO_p rfl (y_len_l Tryz.underlying188 rfl) rfl ?_
  refine SPO_p rfl (y_sub rfl rfl (by omega)) rfl ?_
  refine SPO_p rfl (y_cut hop Tryz.underlying188 Tryz.sizeOf230 rfl rfl (by omega)) rfl ?_
  refine SPO_p rfl (y_nil rfl) rfl ?_
  refine SPO_p rfl (y_fa fld_191_3 rfl) rfl ?_
  refine SPO_z (k := 0) rfl rfl (SP1_store Tryz.sizeOf188 rfl rfl rfl (by first | exact U0 | exact U1 | exact U2 | exact U3 | exact U4 | exact U5 | exact U6 | exact U7 | exact U8 | exact U9 | exact U10 | exact U11 | exact U12 | exact U13 | exact U14 | exact U15 | exact U16 | exact U17 | exact U18 | exact U19 | exact U20 | exact U21 | exact U22 | exact U23) (by rfl) ?_)
  refine SPO_nil ?_
  refine thenP_n ?_
  refine SP_seq ?_
  refine SP_seq ?_
  obtain ⟨q, hq⟩ : ∃ q, b.alt.isSome = q := ⟨_, rfl⟩
  rw [hq] at hfc
  refine SP_region ?_
  refine SPL_y (y_fa fld_230_5 rfl) rfl ?_
  refine SPL_y (y_load Tryz.isAgg227 rfl (by repeat (first | exact Cell.head rfl | apply Cell.tail))) rfl ?_
  refine SPL_y (y_fne' Tryz.underlying227 rfl rfl hfc) rfl ?_
  rcases q with _ | _
  · refine SPL_nil ?_
    refine thenP_n ?_
    refine SP_cond_f rfl ?_
    refine SP_skip ?_
    refine thenP_n ?_
    refine SP_seq ?_
    refine SP_seq ?_
    have hba : b.alt = none := by cases hx : b.alt with
      | none => rfl
      | some a => rw [hx] at hq; simp at hq
    rw [hba] at halt
    obtain ⟨rfl, hsa⟩ := halt
    refine SP_open (pre := [s1, List.flatten [sa, sw, sh], s2]) (by first | exact P0 | exact P1 | exact P2 | exact P3 | exact P4 | exact P5 | exact P6 | exact P7 | exact P8 | exact P9 | exact P10 | exact P11 | exact P12 | exact P13 | exact P14 | exact P15 | exact P16 | exact P17 | exact P18 | exact P19 | exact P20 | exact P21 | exact P22 | exact P23) ?_
    simp only [List.cons_append, List.nil_append]
    refine SP_open (pre := [sa, sw, sh]) (by first | exact P0 | exact P1 | exact P2 | exact P3 | exact P4 | exact P5 | exact P6 | exact P7 | exact P8 | exact P9 | exact P10 | exact P11 | exact P12 | exact P13 | exact P14 | exact P15 | exact P16 | exact P17 | exact P18 | exact P19 | exact P20 | exact P21 | exact P22 | exact P23) ?_
    simp only [List.cons_append, List.nil_append]
    refine SP_part (H' := [blk k 191 [pv, uv, .slice ta C1.st.length tc, .slice (some ⟨bo, 0, none⟩) ((C1.opn.length : Int) - 1).toNat oc, .slice ca C1.code.length cc, mv], cd, sw, sh, st, blk bo 230 (la ++ [S b.res, S b.carry, I b.height, I b.head, .bool b.dead, .nilFunc, .slice wa b.wait.length wc] ++ lb ++ spo), s1, blk b4 230 [S b.res, S b.carry, I b.height, I b.head, .bool b.dead, .nilFunc, .slice wa b.wait.length wc]]) (by repeat (first | exact Part.nil _ | (apply Part.cons; (first | exact P0 | exact P1 | exact P2 | exact P3 | exact P4 | exact P5 | exact P6 | exact P7 | exact P8 | exact P9 | exact P10 | exact P11 | exact P12 | exact P13 | exact P14 | exact P15 | exact P16 | exact P17 | exact P18 | exact P19 | exact P20 | exact P21 | exact P22 | exact P23)) | (apply Part.flat; simp only [List.cons_append, List.nil_append]) | (apply Part.nilc))) ?_
    have hwk := hwc
    obtain ⟨wsh, hwsh⟩ : ∃ x, sh = x := ⟨_, rfl⟩
    rw [hwsh] at hho ⊢
    refine SP_region ?_
    refine SPL_y (y_fa fld_230_6 rfl) rfl ?_
    refine SPL_y (y_load Tryz.isAgg228 rfl (by repeat (first | exact Cell.head rfl | apply Cell.tail))) rfl ?_
    refine SPL_y (y_len_l Tryz.underlying228 rfl) rfl ?_
    refine SPL_y (y_move rfl) rfl ?_
    refine SPL_nil ?_
    refine thenP_n ?_
    refine SP_block ?_
    refine SP_loop (G := Nat × List Flat × Seg) (fun g => b.wait.length - g.1) (fun g => [(0, .pointer (some ⟨k, 0, none⟩)), (3, I e1), (4, .pointer (some ⟨b4, 0, none⟩)), (49, .slice wa b.wait.length wc), (50, I (b.wait.length : Nat)), (51, I g.1)]) (fun g => [blk k 191 [pv, uv, .slice ta C1.st.length tc, .slice (some ⟨bo, 0, none⟩) ((C1.opn.length : Int) - 1).toNat oc, .slice ca C1.code.length cc, mv], g.2.2, sw, wsh, st, blk bo 230 (la ++ [S b.res, S b.carry, I b.height, I b.head, .bool b.dead, .nilFunc, .slice wa b.wait.length wc] ++ lb ++ spo), s1, blk b4 230 [S b.res, S b.carry, I b.height, I b.head, .bool b.dead, .nilFunc, .slice wa b.wait.length wc]]) (fun g => g.1 ≤ b.wait.length ∧ g.2.1 = fillC C1.code (b.wait.take g.1) (C1.code.length : Int) ∧ Arr 181 4 ca C1.code.length cc (g.2.1.flatMap flatV) g.2.2) ((0, C1.code, cd)) (⟨Nat.zero_le _, rfl, hcd⟩) (by repeat (first | exact Sub.nil _ | refine Sub.cons rfl ?_)) (by repeat (first | exact Part.nil _ | (apply Part.cons; (first | exact P0 | exact P1 | exact P2 | exact P3 | exact P4 | exact P5 | exact P6 | exact P7 | exact P8 | exact P9 | exact P10 | exact P11 | exact P12 | exact P13 | exact P14 | exact P15 | exact P16 | exact P17 | exact P18 | exact P19 | exact P20 | exact P21 | exact P22 | exact P23)) | (apply Part.flat; simp only [List.cons_append, List.nil_append]) | (apply Part.nilc))) ?_
    rintro ⟨j, code, cdj⟩ ⟨hj, hcode, hcj⟩
    dsimp only at hj hcode hcj ⊢
    refine SP_seq ?_
    refine SP_region ?_
    refine SPL_if (y_lss rfl rfl) rfl ?_ ?_
    · intro h9_0
      refine SPL_nil ?_
      refine thenP_n ?_
      refine SP_seq ?_
      refine SP_cond_t rfl ?_
      refine SP_skip ?_
      refine thenP_n ?_
      refine SP_seq ?_
      refine SP_block ?_
      refine SP_seq ?_
      refine SP_region ?_
      have hjl : j < b.wait.length := by first | omega | (simp; omega)
      obtain ⟨bw, spw, rfl, hwc2, hspw, rfl⟩ := hwa.row (by omega)
      obtain ⟨xj, hxj⟩ : ∃ x, b.wait[j] = x := ⟨_, rfl⟩
      have hxm : xj ∈ b.wait := by rw [← hxj]; exact List.getElem_mem _
      obtain ⟨fv, g1, gv, g2, hvj, rfl, hgv⟩ := hho.get hjl
      rw [hxj] at hgv
      obtain ⟨kc, acc, rfl, rfl⟩ := hgv
      refine SPL_y (y_ia Tryz.underlying228 Tryz.sizeOf227 rfl rfl (by omega)) rfl ?_
      refine SPL_y (y_load Tryz.isAgg227 rfl (by repeat (first | exact Cell.head (row_at hvj) | apply Cell.tail))) rfl ?_
      refine SPL_y (y_assign rfl) rfl ?_
      refine SPL_nil ?_
      refine thenP_n ?_
      refine SP_open (pre := [g1, List.flatten [blk kc 185 [.pointer (some ⟨k, 0, none⟩)], blk acc 3 [I xj]], g2]) (by first | exact P0 | exact P1 | exact P2 | exact P3 | exact P4 | exact P5 | exact P6 | exact P7 | exact P8 | exact P9 | exact P10 | exact P11 | exact P12 | exact P13 | exact P14 | exact P15 | exact P16 | exact P17 | exact P18 | exact P19 | exact P20 | exact P21 | exact P22 | exact P23) ?_
      simp only [List.cons_append, List.nil_append]
      refine SP_open (pre := [blk kc 185 [.pointer (some ⟨k, 0, none⟩)], blk acc 3 [I xj]]) (by first | exact P0 | exact P1 | exact P2 | exact P3 | exact P4 | exact P5 | exact P6 | exact P7 | exact P8 | exact P9 | exact P10 | exact P11 | exact P12 | exact P13 | exact P14 | exact P15 | exact P16 | exact P17 | exact P18 | exact P19 | exact P20 | exact P21 | exact P22 | exact P23) ?_
      simp only [List.cons_append, List.nil_append]
      refine SP_region ?_
      refine SPL_y (y_move rfl) rfl ?_
      refine SPL_y (y_move rfl) rfl ?_
      refine SPL_y (y_nil rfl) rfl ?_
      refine SPL_y (y_fa fld_191_4 rfl) rfl ?_
      refine SPL_y (y_load Tryz.isAgg106 rfl (by repeat (first | exact Cell.head rfl | apply Cell.tail))) rfl ?_
      refine SPL_y (y_len_l Tryz.underlying106 rfl) rfl ?_
      refine SPL_one rfl (SP1_callv (first := []) (cap := [.pointer (some ⟨kc, 0, none⟩), .pointer (some ⟨acc, 0, none⟩)]) (args := [I (C1.code.length : Int)]) rfl (prep_fill k pv uv _ _ mv _ C1.code.length _ code _ xj (C1.code.length : Int) kc acc (by rw [hcode, fillC_len]) hcj (hwk _ hxm)) Tryz.call151 rfl rfl (by repeat (first | exact Part.nil _ | (apply Part.cons; (first | exact P0 | exact P1 | exact P2 | exact P3 | exact P4 | exact P5 | exact P6 | exact P7 | exact P8 | exact P9 | exact P10 | exact P11 | exact P12 | exact P13 | exact P14 | exact P15 | exact P16 | exact P17 | exact P18 | exact P19 | exact P20 | exact P21 | exact P22 | exact P23)) | (apply Part.flat; simp only [List.cons_append, List.nil_append]) | (apply Part.nilc))) ?_)
      rintro v post H' ⟨cd2, rfl, rfl, hcd2⟩ hH
      simp only [List.cons_append, List.nil_append] at hH
      subst hH
      refine SPL_nil ?_
      refine inBlockP_n ?_
      refine thenP_n ?_
      refine SP_region ?_
      refine SPL_y (y_add rfl rfl (by omega)) rfl ?_
      refine SPL_y (y_move rfl) rfl ?_
      refine SPL_nil ?_
      refine thenP_n ?_
      exact Again.intro ((j + 1, code.modify xj fun f => { f with imm := (C1.code.length : Int) }, cd2)) (⟨by dsimp only; omega, by dsimp only; rw [List.take_succ_eq_append_getElem hjl, fillC_snoc, hxj, ← hcode], hcd2⟩) (by simp only []; omega) (by repeat (first | exact Sub.nil _ | refine Sub.cons rfl ?_)) (by repeat (first | exact Part.nil _ | (apply Part.cons; (first | exact P0 | exact P1 | exact P2 | exact P3 | exact P4 | exact P5 | exact P6 | exact P7 | exact P8 | exact P9 | exact P10 | exact P11 | exact P12 | exact P13 | exact P14 | exact P15 | exact P16 | exact P17 | exact P18 | exact P19 | exact P20 | exact P21 | exact P22 | exact P23)) | (apply Part.flat; simp only [List.cons_append, List.nil_append]) | (apply Part.nilc)))
    intro h9_0
    refine SPL_nil ?_
    refine thenP_n ?_
    refine SP_seq ?_
    refine SP_cond_f rfl ?_
    refine SP_exit ?_
    refine thenP_exit ?_
    refine thenP_exit ?_
    refine inBlockP_hit ?_
    refine thenP_n ?_
    refine SP_seq ?_
    refine SP_draw 7 [(0, 0), (1, 0), (2, 0), (3, 0), (5, 0), (4, 1), (6, 1), (7, 3), (8, 0), (9, 0), (10, 3)] mixed (by kernel_rfl) (fun _ _ _ _ _ h => h) (Part.refl _) ?_
    refine SPO_p rfl (y_move rfl) rfl ?_
    refine SPO_p rfl (y_move rfl) rfl ?_
    refine SPO_p rfl (y_nil rfl) rfl ?_
    refine SPO_p rfl (y_fa fld_191_2 rfl) rfl ?_
    refine SPO_p rfl (y_fa fld_230_0 rfl) rfl ?_
    refine SPO_h rfl (y_load Tryz.isAgg144 rfl (by repeat (first | exact Cell.head rfl | apply Cell.tail))) rfl ?_
    refine SPO_h rfl (y_load Tryz.isAgg9 rfl (by repeat (first | exact Cell.head rfl | apply Cell.tail))) rfl ?_
    refine SPO_z (k := 0) rfl rfl (SP1_append el_144 (.inr Tryz.underlying9) rfl rfl hst (by first | exact P0 | exact P1 | exact P2 | exact P3 | exact P4 | exact P5 | exact P6 | exact P7 | exact P8 | exact P9 | exact P10 | exact P11 | exact P12 | exact P13 | exact P14 | exact P15 | exact P16 | exact P17 | exact P18 | exact P19 | exact P20 | exact P21 | exact P22 | exact P23) Src.str (bytesV_one _) (by omega) rfl ?_)
    intro ta1 tc1 st1 ht1
    refine SPO_p rfl (y_nil rfl) rfl ?_
    refine SPO_p rfl (y_fa fld_191_2 rfl) rfl ?_
    refine SPO_z (k := 0) rfl rfl (SP1_store Tryz.sizeOf144 rfl rfl rfl (by first | exact U0 | exact U1 | exact U2 | exact U3 | exact U4 | exact U5 | exact U6 | exact U7 | exact U8 | exact U9 | exact U10 | exact U11 | exact U12 | exact U13 | exact U14 | exact U15 | exact U16 | exact U17 | exact U18 | exact U19 | exact U20 | exact U21 | exact U22 | exact U23) (by rfl) ?_)
    refine SPO_nil ?_
    refine thenP_n ?_
    refine SP_seq ?_
    refine SP_seq ?_
    refine SP_region ?_
    refine SPL_y (y_move rfl) rfl ?_
    refine SPL_y (y_nil rfl) rfl ?_
    refine SPL_y (y_fa fld_191_3 rfl) rfl ?_
    refine SPL_y (y_load Tryz.isAgg188 rfl (by repeat (first | exact Cell.head rfl | apply Cell.tail))) rfl ?_
    refine SPL_y (y_len_l Tryz.underlying188 rfl) rfl ?_
    refine SPL_ifn (y_eql rfl rfl) rfl ?_ ?_
    · intro h14_5
      refine SPL_nil ?_
      refine thenP_n ?_
      refine SP_cond_f rfl ?_
      refine SP_skip ?_
      refine thenP_n ?_
      refine SP_seq ?_
      refine SP_region ?_
      refine SPL_y (y_move rfl) rfl ?_
      refine SPL_y (y_assign rfl) rfl ?_
      refine SPL_nil ?_
      refine thenP_n ?_
      refine SP_ret ?_
      refine bodyP_ret (H' := [List.flatten [blk k 191 [pv, uv, .slice ta1 (C1.st.length + b.res.length) tc1, .slice (some ⟨bo, 0, none⟩) ((C1.opn.length : Int) - 1).toNat oc, .slice ca C1.code.length cc, mv], st1, blk bo 230 (la ++ [S b.res, S b.carry, I b.height, I b.head, .bool b.dead, .nilFunc, .slice wa b.wait.length wc] ++ lb ++ spo), s1, cdj]]) (Res1 rfl rfl) (by repeat (first | exact Part.nil _ | (apply Part.cons; (first | exact P0 | exact P1 | exact P2 | exact P3 | exact P4 | exact P5 | exact P6 | exact P7 | exact P8 | exact P9 | exact P10 | exact P11 | exact P12 | exact P13 | exact P14 | exact P15 | exact P16 | exact P17 | exact P18 | exact P19 | exact P20 | exact P21 | exact P22 | exact P23)) | (apply Part.flat; simp only [List.cons_append, List.nil_append]) | (apply Part.nilc))) ?_
      have hcode' : code = fillC C1.code b.wait (C1.code.length : Int) := by rw [hcode, List.take_of_length_le (by first | omega | (simp; omega))]
      have hwl : b.wait ++ b.alt.toList = b.wait := by simp [hba]
      have hcl : code.length = C1.code.length := by rw [hcode', fillC_len]
      have e : leave C = ({ st := C1.st ++ b.res, opn := C1.opn.take (C1.opn.length - 1), code := code }, e1) := by
        unfold leave; rw [hP]; dsimp only; rw [htop1, hwl, ← hcode']
        rw [if_neg (show ¬ C1.opn.length = 1 by omega), if_neg (fun h => by rw [hq] at h; simp at h)]
      rw [e]
      exact ⟨_, rfl, rfl, isChk.intro (by simp) (by rw [List.length_take]; omega) (by simp [hcl]) (by simpa [bytesV_append] using ht1) (hop.cutMid hla (by omega) (by omega)) hpre hcj⟩
    intro h14_5
    refine SPL_nil ?_
    refine thenP_n ?_
    refine SP_cond_t rfl ?_
    refine SP_region ?_
    refine SPL_y (y_move rfl) rfl ?_
    refine SPL_y (y_move rfl) rfl ?_
    refine SPL_y (y_nil rfl) rfl ?_
    refine SPL_y (y_fa fld_191_4 rfl) rfl ?_
    refine SPL_y (y_load Tryz.isAgg106 rfl (by repeat (first | exact Cell.head rfl | apply Cell.tail))) rfl ?_
    refine SPL_y (y_build B181 rfl rfl (by simp only [fillL, List.foldl_cons, List.foldl_nil, List.set_cons_zero, List.set_cons_succ]; exact rfl)) rfl ?_
    refine SPL_one rfl (SP1_slice1 el_106 rfl rfl rfl rfl rfl ?_)
    intro b85
    refine SPL_one rfl (SP1_append el_106 (.inl Tryz.underlying106) rfl rfl hcj (by first | exact P0 | exact P1 | exact P2 | exact P3 | exact P4 | exact P5 | exact P6 | exact P7 | exact P8 | exact P9 | exact P10 | exact P11 | exact P12 | exact P13 | exact P14 | exact P15 | exact P16 | exact P17 | exact P18 | exact P19 | exact P20 | exact P21 | exact P22 | exact P23) (Src.of (by repeat (first | exact Cells.all _ | exact Cells.head rfl | apply Cells.tail)) (by rfl)) (by rfl) (by omega) rfl ?_)
    intro ca2 cc2 cd2 hcd2
    refine SPL_y (y_nil rfl) rfl ?_
    refine SPL_y (y_fa fld_191_4 rfl) rfl ?_
    refine SPL_one rfl (SP1_store Tryz.sizeOf106 rfl rfl rfl (by first | exact U0 | exact U1 | exact U2 | exact U3 | exact U4 | exact U5 | exact U6 | exact U7 | exact U8 | exact U9 | exact U10 | exact U11 | exact U12 | exact U13 | exact U14 | exact U15 | exact U16 | exact U17 | exact U18 | exact U19 | exact U20 | exact U21 | exact U22 | exact U23) (by rfl) ?_)
    refine SPL_nil ?_
    refine thenP_n ?_
    refine SP_seq ?_
    refine SP_region ?_
    refine SPL_y (y_move rfl) rfl ?_
    refine SPL_y (y_assign rfl) rfl ?_
    refine SPL_nil ?_
    refine thenP_n ?_
    refine SP_ret ?_
    refine bodyP_ret (H' := [List.flatten [blk k 191 [pv, uv, .slice ta1 (C1.st.length + b.res.length) tc1, .slice (some ⟨bo, 0, none⟩) ((C1.opn.length : Int) - 1).toNat oc, .slice ca2 (C1.code.length + 1) cc2, mv], st1, blk bo 230 (la ++ [S b.res, S b.carry, I b.height, I b.head, .bool b.dead, .nilFunc, .slice wa b.wait.length wc] ++ lb ++ spo), s1, cd2]]) (Res1 rfl rfl) (by repeat (first | exact Part.nil _ | (apply Part.cons; (first | exact P0 | exact P1 | exact P2 | exact P3 | exact P4 | exact P5 | exact P6 | exact P7 | exact P8 | exact P9 | exact P10 | exact P11 | exact P12 | exact P13 | exact P14 | exact P15 | exact P16 | exact P17 | exact P18 | exact P19 | exact P20 | exact P21 | exact P22 | exact P23)) | (apply Part.flat; simp only [List.cons_append, List.nil_append]) | (apply Part.nilc))) ?_
    have hcode' : code = fillC C1.code b.wait (C1.code.length : Int) := by rw [hcode, List.take_of_length_le (by first | omega | (simp; omega))]
    have hwl : b.wait ++ b.alt.toList = b.wait := by simp [hba]
    have hcl : code.length = C1.code.length := by rw [hcode', fillC_len]
    have e : leave C = ({ st := C1.st ++ b.res, opn := C1.opn.take (C1.opn.length - 1), code := code ++ [⟨5, 0, 0, 0⟩] }, e1) := by
      unfold leave; rw [hP]; dsimp only; rw [htop1, hwl, ← hcode']
      rw [if_pos (show C1.opn.length = 1 by omega), if_neg (fun h => by rw [hq] at h; simp at h)]
    rw [e]
    exact ⟨_, rfl, rfl, isChk.intro (by simp) (by rw [List.length_take]; omega) (by simp [hcl]) (by simpa [bytesV_append] using ht1) (hop.cutMid hla (by omega) (by omega)) hpre (by rw [List.flatMap_append]; exact hcd2)⟩
  · refine SPL_nil ?_
    refine thenP_n ?_
    refine SP_cond_t rfl ?_
    refine SP_seq ?_
    obtain ⟨a, haa⟩ := Option.isSome_iff_exists.1 hq
    rw [haa] at halt
    obtain ⟨kc2, ac2, rfl, hsa⟩ := halt
    refine SP_open (pre := [s1, List.flatten [sa, sw, sh], s2]) (by first | exact P0 | exact P1 | exact P2 | exact P3 | exact P4 | exact P5 | exact P6 | exact P7 | exact P8 | exact P9 | exact P10 | exact P11 | exact P12 | exact P13 | exact P14 | exact P15 | exact P16 | exact P17 | exact P18 | exact P19 | exact P20 | exact P21 | exact P22 | exact P23) ?_
    simp only [List.cons_append, List.nil_append]
    refine SP_open (pre := [sa, sw, sh]) (by first | exact P0 | exact P1 | exact P2 | exact P3 | exact P4 | exact P5 | exact P6 | exact P7 | exact P8 | exact P9 | exact P10 | exact P11 | exact P12 | exact P13 | exact P14 | exact P15 | exact P16 | exact P17 | exact P18 | exact P19 | exact P20 | exact P21 | exact P22 | exact P23) ?_
    simp only [List.cons_append, List.nil_append]
    refine SP_region ?_
    refine SPL_y (y_fa fld_230_6 rfl) rfl ?_
    refine SPL_y (y_load Tryz.isAgg228 rfl (by repeat (first | exact Cell.head rfl | apply Cell.tail))) rfl ?_
    refine SPL_y (y_fa fld_230_5 rfl) rfl ?_
    refine SPL_y (y_load Tryz.isAgg227 rfl (by repeat (first | exact Cell.head rfl | apply Cell.tail))) rfl ?_
    refine SPL_one rfl (SP1_slice1 el_228 rfl rfl rfl rfl rfl ?_)
    intro b42
    refine SPL_one rfl (SP1_append el_228 (.inl Tryz.underlying228) rfl rfl hwa (by first | exact P0 | exact P1 | exact P2 | exact P3 | exact P4 | exact P5 | exact P6 | exact P7 | exact P8 | exact P9 | exact P10 | exact P11 | exact P12 | exact P13 | exact P14 | exact P15 | exact P16 | exact P17 | exact P18 | exact P19 | exact P20 | exact P21 | exact P22 | exact P23) (Src.of (by repeat (first | exact Cells.all _ | exact Cells.head rfl | apply Cells.tail)) (by rfl)) (by rfl) (by omega) rfl ?_)
    intro a1 c1 w1 h1
    refine SPL_y (y_fa fld_230_6 rfl) rfl ?_
    refine SPL_one rfl (SP1_store Tryz.sizeOf228 rfl rfl rfl (by first | exact U0 | exact U1 | exact U2 | exact U3 | exact U4 | exact U5 | exact U6 | exact U7 | exact U8 | exact U9 | exact U10 | exact U11 | exact U12 | exact U13 | exact U14 | exact U15 | exact U16 | exact U17 | exact U18 | exact U19 | exact U20 | exact U21 | exact U22 | exact U23) (by rfl) ?_)
    refine SPL_nil ?_
    refine thenP_n ?_
    refine SP_seq ?_
    refine SP_region ?_
    refine SPL_y (y_fa fld_230_0 rfl) rfl ?_
    refine SPL_y (y_load Tryz.isAgg9 rfl (by repeat (first | exact Cell.head rfl | apply Cell.tail))) rfl ?_
    refine SPL_ifn (y_sne0 rfl rfl) rfl ?_ ?_
    · intro h6_2
      refine SPL_nil ?_
      refine thenP_n ?_
      refine SP_cond_f rfl ?_
      refine SP_skip ?_
      refine thenP_n ?_
      refine SP_seq ?_
      refine SP_seq ?_
      have hwh : Holes k (b.wait ++ [a]) (vs ++ [.func (.func 151) #[] #[.pointer (some ⟨kc2, 0, none⟩), .pointer (some ⟨ac2, 0, none⟩)]]) (List.flatten [sh, sa]) := hho.snoc ⟨kc2, ac2, rfl, hsa⟩
      refine SP_part (H' := [blk k 191 [pv, uv, .slice ta C1.st.length tc, .slice (some ⟨bo, 0, none⟩) ((C1.opn.length : Int) - 1).toNat oc, .slice ca C1.code.length cc, mv], cd, w1, List.flatten [sh, sa], st, blk bo 230 (la ++ [S b.res, S b.carry, I b.height, I b.head, .bool b.dead, .func (.func 151) #[] #[.pointer (some ⟨kc2, 0, none⟩), .pointer (some ⟨ac2, 0, none⟩)], .slice wa b.wait.length wc] ++ lb ++ spo), s1, blk b4 230 [S b.res, S b.carry, I b.height, I b.head, .bool b.dead, .func (.func 151) #[] #[.pointer (some ⟨kc2, 0, none⟩), .pointer (some ⟨ac2, 0, none⟩)], .slice a1 (b.wait.length + 1) c1]]) (by repeat (first | exact Part.nil _ | (apply Part.cons; (first | exact P0 | exact P1 | exact P2 | exact P3 | exact P4 | exact P5 | exact P6 | exact P7 | exact P8 | exact P9 | exact P10 | exact P11 | exact P12 | exact P13 | exact P14 | exact P15 | exact P16 | exact P17 | exact P18 | exact P19 | exact P20 | exact P21 | exact P22 | exact P23)) | (apply Part.flat; simp only [List.cons_append, List.nil_append]) | (apply Part.nilc))) ?_
      obtain ⟨wsh, hwsh⟩ : ∃ x, List.flatten [sh, sa] = x := ⟨_, rfl⟩
      rw [hwsh] at hwh ⊢
      have hwk : ∀ x, x ∈ b.wait ++ [a] → x < C1.code.length := fun x hx => by rcases List.mem_append.1 hx with h | h; exact hwc x h; simp at h; subst h; exact ha _ haa
      refine SP_region ?_
      refine SPL_y (y_fa fld_230_6 rfl) rfl ?_
      refine SPL_y (y_load Tryz.isAgg228 rfl (by repeat (first | exact Cell.head rfl | apply Cell.tail))) rfl ?_
      refine SPL_y (y_len_l Tryz.underlying228 rfl) rfl ?_
      refine SPL_y (y_move rfl) rfl ?_
      refine SPL_nil ?_
      refine thenP_n ?_
      refine SP_block ?_
      refine SP_loop (G := Nat × List Flat × Seg) (fun g => (b.wait ++ [a]).length - g.1) (fun g => [(0, .pointer (some ⟨k, 0, none⟩)), (3, I e1), (4, .pointer (some ⟨b4, 0, none⟩)), (49, .slice a1 (b.wait.length + 1) c1), (50, I ((b.wait.length + 1) : Nat)), (51, I g.1)]) (fun g => [blk k 191 [pv, uv, .slice ta C1.st.length tc, .slice (some ⟨bo, 0, none⟩) ((C1.opn.length : Int) - 1).toNat oc, .slice ca C1.code.length cc, mv], g.2.2, w1, wsh, st, blk bo 230 (la ++ [S b.res, S b.carry, I b.height, I b.head, .bool b.dead, .func (.func 151) #[] #[.pointer (some ⟨kc2, 0, none⟩), .pointer (some ⟨ac2, 0, none⟩)], .slice wa b.wait.length wc] ++ lb ++ spo), s1, blk b4 230 [S b.res, S b.carry, I b.height, I b.head, .bool b.dead, .func (.func 151) #[] #[.pointer (some ⟨kc2, 0, none⟩), .pointer (some ⟨ac2, 0, none⟩)], .slice a1 (b.wait.length + 1) c1]]) (fun g => g.1 ≤ (b.wait ++ [a]).length ∧ g.2.1 = fillC C1.code ((b.wait ++ [a]).take g.1) (C1.code.length : Int) ∧ Arr 181 4 ca C1.code.length cc (g.2.1.flatMap flatV) g.2.2) ((0, C1.code, cd)) (⟨Nat.zero_le _, rfl, hcd⟩) (by repeat (first | exact Sub.nil _ | refine Sub.cons rfl ?_)) (by repeat (first | exact Part.nil _ | (apply Part.cons; (first | exact P0 | exact P1 | exact P2 | exact P3 | exact P4 | exact P5 | exact P6 | exact P7 | exact P8 | exact P9 | exact P10 | exact P11 | exact P12 | exact P13 | exact P14 | exact P15 | exact P16 | exact P17 | exact P18 | exact P19 | exact P20 | exact P21 | exact P22 | exact P23)) | (apply Part.flat; simp only [List.cons_append, List.nil_append]) | (apply Part.nilc))) ?_
      rintro ⟨j, code, cdj⟩ ⟨hj, hcode, hcj⟩
      dsimp only at hj hcode hcj ⊢
      refine SP_seq ?_
      refine SP_region ?_
      refine SPL_if (y_lss rfl rfl) rfl ?_ ?_
      · intro h9_0
        refine SPL_nil ?_
        refine thenP_n ?_
        refine SP_seq ?_
        refine SP_cond_t rfl ?_
        refine SP_skip ?_
        refine thenP_n ?_
        refine SP_seq ?_
        refine SP_block ?_
        refine SP_seq ?_
        refine SP_region ?_
        have hjl : j < (b.wait ++ [a]).length := by first | omega | (simp; omega)
        obtain ⟨bw, spw, rfl, hwc2, hspw, rfl⟩ := h1.row (by omega)
        obtain ⟨xj, hxj⟩ : ∃ x, (b.wait ++ [a])[j] = x := ⟨_, rfl⟩
        have hxm : xj ∈ (b.wait ++ [a]) := by rw [← hxj]; exact List.getElem_mem _
        obtain ⟨fv, g1, gv, g2, hvj, rfl, hgv⟩ := hwh.get hjl
        rw [hxj] at hgv
        obtain ⟨kc, acc, rfl, rfl⟩ := hgv
        refine SPL_y (y_ia Tryz.underlying228 Tryz.sizeOf227 rfl rfl (by omega)) rfl ?_
        refine SPL_y (y_load Tryz.isAgg227 rfl (by repeat (first | exact Cell.head (row_at hvj) | apply Cell.tail))) rfl ?_
        refine SPL_y (y_assign rfl) rfl ?_
        refine SPL_nil ?_
        refine thenP_n ?_
        refine SP_open (pre := [g1, List.flatten [blk kc 185 [.pointer (some ⟨k, 0, none⟩)], blk acc 3 [I xj]], g2]) (by first | exact P0 | exact P1 | exact P2 | exact P3 | exact P4 | exact P5 | exact P6 | exact P7 | exact P8 | exact P9 | exact P10 | exact P11 | exact P12 | exact P13 | exact P14 | exact P15 | exact P16 | exact P17 | exact P18 | exact P19 | exact P20 | exact P21 | exact P22 | exact P23) ?_
        simp only [List.cons_append, List.nil_append]
        refine SP_open (pre := [blk kc 185 [.pointer (some ⟨k, 0, none⟩)], blk acc 3 [I xj]]) (by first | exact P0 | exact P1 | exact P2 | exact P3 | exact P4 | exact P5 | exact P6 | exact P7 | exact P8 | exact P9 | exact P10 | exact P11 | exact P12 | exact P13 | exact P14 | exact P15 | exact P16 | exact P17 | exact P18 | exact P19 | exact P20 | exact P21 | exact P22 | exact P23) ?_
        simp only [List.cons_append, List.nil_append]
        refine SP_region ?_
        refine SPL_y (y_move rfl) rfl ?_
        refine SPL_y (y_move rfl) rfl ?_
        refine SPL_y (y_nil rfl) rfl ?_
        refine SPL_y (y_fa fld_191_4 rfl) rfl ?_
        refine SPL_y (y_load Tryz.isAgg106 rfl (by repeat (first | exact Cell.head rfl | apply Cell.tail))) rfl ?_
        refine SPL_y (y_len_l Tryz.underlying106 rfl) rfl ?_
        refine SPL_one rfl (SP1_callv (first := []) (cap := [.pointer (some ⟨kc, 0, none⟩), .pointer (some ⟨acc, 0, none⟩)]) (args := [I (C1.code.length : Int)]) rfl (prep_fill k pv uv _ _ mv _ C1.code.length _ code _ xj (C1.code.length : Int) kc acc (by rw [hcode, fillC_len]) hcj (hwk _ hxm)) Tryz.call151 rfl rfl (by repeat (first | exact Part.nil _ | (apply Part.cons; (first | exact P0 | exact P1 | exact P2 | exact P3 | exact P4 | exact P5 | exact P6 | exact P7 | exact P8 | exact P9 | exact P10 | exact P11 | exact P12 | exact P13 | exact P14 | exact P15 | exact P16 | exact P17 | exact P18 | exact P19 | exact P20 | exact P21 | exact P22 | exact P23)) | (apply Part.flat; simp only [List.cons_append, List.nil_append]) | (apply Part.nilc))) ?_)
        rintro v post H' ⟨cd2, rfl, rfl, hcd2⟩ hH
        simp only [List.cons_append, List.nil_append] at hH
        subst hH
        refine SPL_nil ?_
        refine inBlockP_n ?_
        refine thenP_n ?_
        refine SP_region ?_
        refine SPL_y (y_add rfl rfl (by omega)) rfl ?_
        refine SPL_y (y_move rfl) rfl ?_
        refine SPL_nil ?_
        refine thenP_n ?_
        exact Again.intro ((j + 1, code.modify xj fun f => { f with imm := (C1.code.length : Int) }, cd2)) (⟨by dsimp only; omega, by dsimp only; rw [List.take_succ_eq_append_getElem hjl, fillC_snoc, hxj, ← hcode], hcd2⟩) (by simp only []; omega) (by repeat (first | exact Sub.nil _ | refine Sub.cons rfl ?_)) (by repeat (first | exact Part.nil _ | (apply Part.cons; (first | exact P0 | exact P1 | exact P2 | exact P3 | exact P4 | exact P5 | exact P6 | exact P7 | exact P8 | exact P9 | exact P10 | exact P11 | exact P12 | exact P13 | exact P14 | exact P15 | exact P16 | exact P17 | exact P18 | exact P19 | exact P20 | exact P21 | exact P22 | exact P23)) | (apply Part.flat; simp only [List.cons_append, List.nil_append]) | (apply Part.nilc)))
      intro h9_0
      refine SPL_nil ?_
      refine thenP_n ?_
      refine SP_seq ?_
      refine SP_cond_f rfl ?_
      refine SP_exit ?_
      refine thenP_exit ?_
      refine thenP_exit ?_
      refine inBlockP_hit ?_
      refine thenP_n ?_
      refine SP_seq ?_
      refine SP_draw 7 [(0, 0), (1, 0), (2, 0), (3, 0), (5, 0), (4, 1), (6, 1), (7, 3), (8, 0), (9, 0), (10, 3)] mixed (by kernel_rfl) (fun _ _ _ _ _ h => h) (Part.refl _) ?_
      refine SPO_p rfl (y_move rfl) rfl ?_
      refine SPO_p rfl (y_move rfl) rfl ?_
      refine SPO_p rfl (y_nil rfl) rfl ?_
      refine SPO_p rfl (y_fa fld_191_2 rfl) rfl ?_
      refine SPO_p rfl (y_fa fld_230_0 rfl) rfl ?_
      refine SPO_h rfl (y_load Tryz.isAgg144 rfl (by repeat (first | exact Cell.head rfl | apply Cell.tail))) rfl ?_
      refine SPO_h rfl (y_load Tryz.isAgg9 rfl (by repeat (first | exact Cell.head rfl | apply Cell.tail))) rfl ?_
      refine SPO_z (k := 0) rfl rfl (SP1_append el_144 (.inr Tryz.underlying9) rfl rfl hst (by first | exact P0 | exact P1 | exact P2 | exact P3 | exact P4 | exact P5 | exact P6 | exact P7 | exact P8 | exact P9 | exact P10 | exact P11 | exact P12 | exact P13 | exact P14 | exact P15 | exact P16 | exact P17 | exact P18 | exact P19 | exact P20 | exact P21 | exact P22 | exact P23) Src.str (bytesV_one _) (by omega) rfl ?_)
      intro ta1 tc1 st1 ht1
      refine SPO_p rfl (y_nil rfl) rfl ?_
      refine SPO_p rfl (y_fa fld_191_2 rfl) rfl ?_
      refine SPO_z (k := 0) rfl rfl (SP1_store Tryz.sizeOf144 rfl rfl rfl (by first | exact U0 | exact U1 | exact U2 | exact U3 | exact U4 | exact U5 | exact U6 | exact U7 | exact U8 | exact U9 | exact U10 | exact U11 | exact U12 | exact U13 | exact U14 | exact U15 | exact U16 | exact U17 | exact U18 | exact U19 | exact U20 | exact U21 | exact U22 | exact U23) (by rfl) ?_)
      refine SPO_nil ?_
      refine thenP_n ?_
      refine SP_seq ?_
      refine SP_seq ?_
      refine SP_region ?_
      refine SPL_y (y_move rfl) rfl ?_
      refine SPL_y (y_nil rfl) rfl ?_
      refine SPL_y (y_fa fld_191_3 rfl) rfl ?_
      refine SPL_y (y_load Tryz.isAgg188 rfl (by repeat (first | exact Cell.head rfl | apply Cell.tail))) rfl ?_
      refine SPL_y (y_len_l Tryz.underlying188 rfl) rfl ?_
      refine SPL_ifn (y_eql rfl rfl) rfl ?_ ?_
      · intro h14_5
        refine SPL_nil ?_
        refine thenP_n ?_
        refine SP_cond_f rfl ?_
        refine SP_skip ?_
        refine thenP_n ?_
        refine SP_seq ?_
        refine SP_region ?_
        refine SPL_y (y_move rfl) rfl ?_
        refine SPL_y (y_assign rfl) rfl ?_
        refine SPL_nil ?_
        refine thenP_n ?_
        refine SP_ret ?_
        refine bodyP_ret (H' := [List.flatten [blk k 191 [pv, uv, .slice ta1 (C1.st.length + b.res.length) tc1, .slice (some ⟨bo, 0, none⟩) ((C1.opn.length : Int) - 1).toNat oc, .slice ca C1.code.length cc, mv], st1, blk bo 230 (la ++ [S b.res, S b.carry, I b.height, I b.head, .bool b.dead, .func (.func 151) #[] #[.pointer (some ⟨kc2, 0, none⟩), .pointer (some ⟨ac2, 0, none⟩)], .slice wa b.wait.length wc] ++ lb ++ spo), s1, cdj]]) (Res1 rfl rfl) (by repeat (first | exact Part.nil _ | (apply Part.cons; (first | exact P0 | exact P1 | exact P2 | exact P3 | exact P4 | exact P5 | exact P6 | exact P7 | exact P8 | exact P9 | exact P10 | exact P11 | exact P12 | exact P13 | exact P14 | exact P15 | exact P16 | exact P17 | exact P18 | exact P19 | exact P20 | exact P21 | exact P22 | exact P23)) | (apply Part.flat; simp only [List.cons_append, List.nil_append]) | (apply Part.nilc))) ?_
        have hcode' : code = fillC C1.code (b.wait ++ [a]) (C1.code.length : Int) := by rw [hcode, List.take_of_length_le (by first | omega | (simp; omega))]
        have hwl : b.wait ++ b.alt.toList = (b.wait ++ [a]) := by simp [haa]
        have hcl : code.length = C1.code.length := by rw [hcode', fillC_len]
        have e : leave C = ({ st := C1.st ++ b.res, opn := C1.opn.take (C1.opn.length - 1), code := code }, e1) := by
          unfold leave; rw [hP]; dsimp only; rw [htop1, hwl, ← hcode']
          rw [if_neg (show ¬ C1.opn.length = 1 by omega), if_neg (fun h => h6_2 (fun h0 => h.2 (List.eq_nil_of_length_eq_zero h0)))]
        rw [e]
        exact ⟨_, rfl, rfl, isChk.intro (by simp) (by rw [List.length_take]; omega) (by simp [hcl]) (by simpa [bytesV_append] using ht1) (hop.cutMid hla (by omega) (by omega)) hpre hcj⟩
      intro h14_5
      refine SPL_nil ?_
      refine thenP_n ?_
      refine SP_cond_t rfl ?_
      refine SP_region ?_
      refine SPL_y (y_move rfl) rfl ?_
      refine SPL_y (y_move rfl) rfl ?_
      refine SPL_y (y_nil rfl) rfl ?_
      refine SPL_y (y_fa fld_191_4 rfl) rfl ?_
      refine SPL_y (y_load Tryz.isAgg106 rfl (by repeat (first | exact Cell.head rfl | apply Cell.tail))) rfl ?_
      refine SPL_y (y_build B181 rfl rfl (by simp only [fillL, List.foldl_cons, List.foldl_nil, List.set_cons_zero, List.set_cons_succ]; exact rfl)) rfl ?_
      refine SPL_one rfl (SP1_slice1 el_106 rfl rfl rfl rfl rfl ?_)
      intro b85
      refine SPL_one rfl (SP1_append el_106 (.inl Tryz.underlying106) rfl rfl hcj (by first | exact P0 | exact P1 | exact P2 | exact P3 | exact P4 | exact P5 | exact P6 | exact P7 | exact P8 | exact P9 | exact P10 | exact P11 | exact P12 | exact P13 | exact P14 | exact P15 | exact P16 | exact P17 | exact P18 | exact P19 | exact P20 | exact P21 | exact P22 | exact P23) (Src.of (by repeat (first | exact Cells.all _ | exact Cells.head rfl | apply Cells.tail)) (by rfl)) (by rfl) (by omega) rfl ?_)
      intro ca2 cc2 cd2 hcd2
      refine SPL_y (y_nil rfl) rfl ?_
      refine SPL_y (y_fa fld_191_4 rfl) rfl ?_
      refine SPL_one rfl (SP1_store Tryz.sizeOf106 rfl rfl rfl (by first | exact U0 | exact U1 | exact U2 | exact U3 | exact U4 | exact U5 | exact U6 | exact U7 | exact U8 | exact U9 | exact U10 | exact U11 | exact U12 | exact U13 | exact U14 | exact U15 | exact U16 | exact U17 | exact U18 | exact U19 | exact U20 | exact U21 | exact U22 | exact U23) (by rfl) ?_)
      refine SPL_nil ?_
      refine thenP_n ?_
      refine SP_seq ?_
      refine SP_region ?_
      refine SPL_y (y_move rfl) rfl ?_
      refine SPL_y (y_assign rfl) rfl ?_
      refine SPL_nil ?_
      refine thenP_n ?_
      refine SP_ret ?_
      refine bodyP_ret (H' := [List.flatten [blk k 191 [pv, uv, .slice ta1 (C1.st.length + b.res.length) tc1, .slice (some ⟨bo, 0, none⟩) ((C1.opn.length : Int) - 1).toNat oc, .slice ca2 (C1.code.length + 1) cc2, mv], st1, blk bo 230 (la ++ [S b.res, S b.carry, I b.height, I b.head, .bool b.dead, .func (.func 151) #[] #[.pointer (some ⟨kc2, 0, none⟩), .pointer (some ⟨ac2, 0, none⟩)], .slice wa b.wait.length wc] ++ lb ++ spo), s1, cd2]]) (Res1 rfl rfl) (by repeat (first | exact Part.nil _ | (apply Part.cons; (first | exact P0 | exact P1 | exact P2 | exact P3 | exact P4 | exact P5 | exact P6 | exact P7 | exact P8 | exact P9 | exact P10 | exact P11 | exact P12 | exact P13 | exact P14 | exact P15 | exact P16 | exact P17 | exact P18 | exact P19 | exact P20 | exact P21 | exact P22 | exact P23)) | (apply Part.flat; simp only [List.cons_append, List.nil_append]) | (apply Part.nilc))) ?_
      have hcode' : code = fillC C1.code (b.wait ++ [a]) (C1.code.length : Int) := by rw [hcode, List.take_of_length_le (by first | omega | (simp; omega))]
      have hwl : b.wait ++ b.alt.toList = (b.wait ++ [a]) := by simp [haa]
      have hcl : code.length = C1.code.length := by rw [hcode', fillC_len]
      have e : leave C = ({ st := C1.st ++ b.res, opn := C1.opn.take (C1.opn.length - 1), code := code ++ [⟨5, 0, 0, 0⟩] }, e1) := by
        unfold leave; rw [hP]; dsimp only; rw [htop1, hwl, ← hcode']
        rw [if_pos (show C1.opn.length = 1 by omega), if_neg (fun h => h6_2 (fun h0 => h.2 (List.eq_nil_of_length_eq_zero h0)))]
      rw [e]
      exact ⟨_, rfl, rfl, isChk.intro (by simp) (by rw [List.length_take]; omega) (by simp [hcl]) (by simpa [bytesV_append] using ht1) (hop.cutMid hla (by omega) (by omega)) hpre (by rw [List.flatMap_append]; exact hcd2)⟩
    intro h6_2
    refine SPL_nil ?_
    refine thenP_n ?_
    refine SP_cond_t rfl ?_
    refine SP_region ?_
    refine SPL_y (y_assign rfl) rfl ?_
    refine SPL_nil ?_
    refine thenP_n ?_
    refine SP_seq ?_
    refine SP_seq ?_
    have hwh : Holes k (b.wait ++ [a]) (vs ++ [.func (.func 151) #[] #[.pointer (some ⟨kc2, 0, none⟩), .pointer (some ⟨ac2, 0, none⟩)]]) (List.flatten [sh, sa]) := hho.snoc ⟨kc2, ac2, rfl, hsa⟩
    refine SP_part (H' := [blk k 191 [pv, uv, .slice ta C1.st.length tc, .slice (some ⟨bo, 0, none⟩) ((C1.opn.length : Int) - 1).toNat oc, .slice ca C1.code.length cc, mv], cd, w1, List.flatten [sh, sa], st, blk bo 230 (la ++ [S b.res, S b.carry, I b.height, I b.head, .bool b.dead, .func (.func 151) #[] #[.pointer (some ⟨kc2, 0, none⟩), .pointer (some ⟨ac2, 0, none⟩)], .slice wa b.wait.length wc] ++ lb ++ spo), s1, blk b4 230 [S b.res, S b.carry, I b.height, I b.head, .bool b.dead, .func (.func 151) #[] #[.pointer (some ⟨kc2, 0, none⟩), .pointer (some ⟨ac2, 0, none⟩)], .slice a1 (b.wait.length + 1) c1]]) (by repeat (first | exact Part.nil _ | (apply Part.cons; (first | exact P0 | exact P1 | exact P2 | exact P3 | exact P4 | exact P5 | exact P6 | exact P7 | exact P8 | exact P9 | exact P10 | exact P11 | exact P12 | exact P13 | exact P14 | exact P15 | exact P16 | exact P17 | exact P18 | exact P19 | exact P20 | exact P21 | exact P22 | exact P23)) | (apply Part.flat; simp only [List.cons_append, List.nil_append]) | (apply Part.nilc))) ?_
    obtain ⟨wsh, hwsh⟩ : ∃ x, List.flatten [sh, sa] = x := ⟨_, rfl⟩
    rw [hwsh] at hwh ⊢
    have hwk : ∀ x, x ∈ b.wait ++ [a] → x < C1.code.length := fun x hx => by rcases List.mem_append.1 hx with h | h; exact hwc x h; simp at h; subst h; exact ha _ haa
    refine SP_region ?_
    refine SPL_y (y_fa fld_230_6 rfl) rfl ?_
    refine SPL_y (y_load Tryz.isAgg228 rfl (by repeat (first | exact Cell.head rfl | apply Cell.tail))) rfl ?_
    refine SPL_y (y_len_l Tryz.underlying228 rfl) rfl ?_
    refine SPL_y (y_move rfl) rfl ?_
    refine SPL_nil ?_
    refine thenP_n ?_
    refine SP_block ?_
    refine SP_loop (G := Nat × List Flat × Seg) (fun g => (b.wait ++ [a]).length - g.1) (fun g => [(0, .pointer (some ⟨k, 0, none⟩)), (3, I 6), (4, .pointer (some ⟨b4, 0, none⟩)), (49, .slice a1 (b.wait.length + 1) c1), (50, I ((b.wait.length + 1) : Nat)), (51, I g.1)]) (fun g => [blk k 191 [pv, uv, .slice ta C1.st.length tc, .slice (some ⟨bo, 0, none⟩) ((C1.opn.length : Int) - 1).toNat oc, .slice ca C1.code.length cc, mv], g.2.2, w1, wsh, st, blk bo 230 (la ++ [S b.res, S b.carry, I b.height, I b.head, .bool b.dead, .func (.func 151) #[] #[.pointer (some ⟨kc2, 0, none⟩), .pointer (some ⟨ac2, 0, none⟩)], .slice wa b.wait.length wc] ++ lb ++ spo), s1, blk b4 230 [S b.res, S b.carry, I b.height, I b.head, .bool b.dead, .func (.func 151) #[] #[.pointer (some ⟨kc2, 0, none⟩), .pointer (some ⟨ac2, 0, none⟩)], .slice a1 (b.wait.length + 1) c1]]) (fun g => g.1 ≤ (b.wait ++ [a]).length ∧ g.2.1 = fillC C1.code ((b.wait ++ [a]).take g.1) (C1.code.length : Int) ∧ Arr 181 4 ca C1.code.length cc (g.2.1.flatMap flatV) g.2.2) ((0, C1.code, cd)) (⟨Nat.zero_le _, rfl, hcd⟩) (by repeat (first | exact Sub.nil _ | refine Sub.cons rfl ?_)) (by repeat (first | exact Part.nil _ | (apply Part.cons; (first | exact P0 | exact P1 | exact P2 | exact P3 | exact P4 | exact P5 | exact P6 | exact P7 | exact P8 | exact P9 | exact P10 | exact P11 | exact P12 | exact P13 | exact P14 | exact P15 | exact P16 | exact P17 | exact P18 | exact P19 | exact P20 | exact P21 | exact P22 | exact P23)) | (apply Part.flat; simp only [List.cons_append, List.nil_append]) | (apply Part.nilc))) ?_
    rintro ⟨j, code, cdj⟩ ⟨hj, hcode, hcj⟩
    dsimp only at hj hcode hcj ⊢
    refine SP_seq ?_
    refine SP_region ?_
    refine SPL_if (y_lss rfl rfl) rfl ?_ ?_
    · intro h9_0
      refine SPL_nil ?_
      refine thenP_n ?_
      refine SP_seq ?_
      refine SP_cond_t rfl ?_
      refine SP_skip ?_
      refine thenP_n ?_
      refine SP_seq ?_
      refine SP_block ?_
      refine SP_seq ?_
      refine SP_region ?_
      have hjl : j < (b.wait ++ [a]).length := by first | omega | (simp; omega)
      obtain ⟨bw, spw, rfl, hwc2, hspw, rfl⟩ := h1.row (by omega)
      obtain ⟨xj, hxj⟩ : ∃ x, (b.wait ++ [a])[j] = x := ⟨_, rfl⟩
      have hxm : xj ∈ (b.wait ++ [a]) := by rw [← hxj]; exact List.getElem_mem _
      obtain ⟨fv, g1, gv, g2, hvj, rfl, hgv⟩ := hwh.get hjl
      rw [hxj] at hgv
      obtain ⟨kc, acc, rfl, rfl⟩ := hgv
      refine SPL_y (y_ia Tryz.underlying228 Tryz.sizeOf227 rfl rfl (by omega)) rfl ?_
      refine SPL_y (y_load Tryz.isAgg227 rfl (by repeat (first | exact Cell.head (row_at hvj) | apply Cell.tail))) rfl ?_
      refine SPL_y (y_assign rfl) rfl ?_
      refine SPL_nil ?_
      refine thenP_n ?_
      refine SP_open (pre := [g1, List.flatten [blk kc 185 [.pointer (some ⟨k, 0, none⟩)], blk acc 3 [I xj]], g2]) (by first | exact P0 | exact P1 | exact P2 | exact P3 | exact P4 | exact P5 | exact P6 | exact P7 | exact P8 | exact P9 | exact P10 | exact P11 | exact P12 | exact P13 | exact P14 | exact P15 | exact P16 | exact P17 | exact P18 | exact P19 | exact P20 | exact P21 | exact P22 | exact P23) ?_
      simp only [List.cons_append, List.nil_append]
      refine SP_open (pre := [blk kc 185 [.pointer (some ⟨k, 0, none⟩)], blk acc 3 [I xj]]) (by first | exact P0 | exact P1 | exact P2 | exact P3 | exact P4 | exact P5 | exact P6 | exact P7 | exact P8 | exact P9 | exact P10 | exact P11 | exact P12 | exact P13 | exact P14 | exact P15 | exact P16 | exact P17 | exact P18 | exact P19 | exact P20 | exact P21 | exact P22 | exact P23) ?_
      simp only [List.cons_append, List.nil_append]
      refine SP_region ?_
      refine SPL_y (y_move rfl) rfl ?_
      refine SPL_y (y_move rfl) rfl ?_
      refine SPL_y (y_nil rfl) rfl ?_
      refine SPL_y (y_fa fld_191_4 rfl) rfl ?_
      refine SPL_y (y_load Tryz.isAgg106 rfl (by repeat (first | exact Cell.head rfl | apply Cell.tail))) rfl ?_
      refine SPL_y (y_len_l Tryz.underlying106 rfl) rfl ?_
      refine SPL_one rfl (SP1_callv (first := []) (cap := [.pointer (some ⟨kc, 0, none⟩), .pointer (some ⟨acc, 0, none⟩)]) (args := [I (C1.code.length : Int)]) rfl (prep_fill k pv uv _ _ mv _ C1.code.length _ code _ xj (C1.code.length : Int) kc acc (by rw [hcode, fillC_len]) hcj (hwk _ hxm)) Tryz.call151 rfl rfl (by repeat (first | exact Part.nil _ | (apply Part.cons; (first | exact P0 | exact P1 | exact P2 | exact P3 | exact P4 | exact P5 | exact P6 | exact P7 | exact P8 | exact P9 | exact P10 | exact P11 | exact P12 | exact P13 | exact P14 | exact P15 | exact P16 | exact P17 | exact P18 | exact P19 | exact P20 | exact P21 | exact P22 | exact P23)) | (apply Part.flat; simp only [List.cons_append, List.nil_append]) | (apply Part.nilc))) ?_)
      rintro v post H' ⟨cd2, rfl, rfl, hcd2⟩ hH
      simp only [List.cons_append, List.nil_append] at hH
      subst hH
      refine SPL_nil ?_
      refine inBlockP_n ?_
      refine thenP_n ?_
      refine SP_region ?_
      refine SPL_y (y_add rfl rfl (by omega)) rfl ?_
      refine SPL_y (y_move rfl) rfl ?_
      refine SPL_nil ?_
      refine thenP_n ?_
      exact Again.intro ((j + 1, code.modify xj fun f => { f with imm := (C1.code.length : Int) }, cd2)) (⟨by dsimp only; omega, by dsimp only; rw [List.take_succ_eq_append_getElem hjl, fillC_snoc, hxj, ← hcode], hcd2⟩) (by simp only []; omega) (by repeat (first | exact Sub.nil _ | refine Sub.cons rfl ?_)) (by repeat (first | exact Part.nil _ | (apply Part.cons; (first | exact P0 | exact P1 | exact P2 | exact P3 | exact P4 | exact P5 | exact P6 | exact P7 | exact P8 | exact P9 | exact P10 | exact P11 | exact P12 | exact P13 | exact P14 | exact P15 | exact P16 | exact P17 | exact P18 | exact P19 | exact P20 | exact P21 | exact P22 | exact P23)) | (apply Part.flat; simp only [List.cons_append, List.nil_append]) | (apply Part.nilc)))
    intro h9_0
    refine SPL_nil ?_
    refine thenP_n ?_
    refine SP_seq ?_
    refine SP_cond_f rfl ?_
    refine SP_exit ?_
    refine thenP_exit ?_
    refine thenP_exit ?_
    refine inBlockP_hit ?_
    refine thenP_n ?_
    refine SP_seq ?_
    refine SP_draw 7 [(0, 0), (1, 0), (2, 0), (3, 0), (5, 0), (4, 1), (6, 1), (7, 3), (8, 0), (9, 0), (10, 3)] mixed (by kernel_rfl) (fun _ _ _ _ _ h => h) (Part.refl _) ?_
    refine SPO_p rfl (y_move rfl) rfl ?_
    refine SPO_p rfl (y_move rfl) rfl ?_
    refine SPO_p rfl (y_nil rfl) rfl ?_
    refine SPO_p rfl (y_fa fld_191_2 rfl) rfl ?_
    refine SPO_p rfl (y_fa fld_230_0 rfl) rfl ?_
    refine SPO_h rfl (y_load Tryz.isAgg144 rfl (by repeat (first | exact Cell.head rfl | apply Cell.tail))) rfl ?_
    refine SPO_h rfl (y_load Tryz.isAgg9 rfl (by repeat (first | exact Cell.head rfl | apply Cell.tail))) rfl ?_
    refine SPO_z (k := 0) rfl rfl (SP1_append el_144 (.inr Tryz.underlying9) rfl rfl hst (by first | exact P0 | exact P1 | exact P2 | exact P3 | exact P4 | exact P5 | exact P6 | exact P7 | exact P8 | exact P9 | exact P10 | exact P11 | exact P12 | exact P13 | exact P14 | exact P15 | exact P16 | exact P17 | exact P18 | exact P19 | exact P20 | exact P21 | exact P22 | exact P23) Src.str (bytesV_one _) (by omega) rfl ?_)
    intro ta1 tc1 st1 ht1
    refine SPO_p rfl (y_nil rfl) rfl ?_
    refine SPO_p rfl (y_fa fld_191_2 rfl) rfl ?_
    refine SPO_z (k := 0) rfl rfl (SP1_store Tryz.sizeOf144 rfl rfl rfl (by first | exact U0 | exact U1 | exact U2 | exact U3 | exact U4 | exact U5 | exact U6 | exact U7 | exact U8 | exact U9 | exact U10 | exact U11 | exact U12 | exact U13 | exact U14 | exact U15 | exact U16 | exact U17 | exact U18 | exact U19 | exact U20 | exact U21 | exact U22 | exact U23) (by rfl) ?_)
    refine SPO_nil ?_
    refine thenP_n ?_
    refine SP_seq ?_
    refine SP_seq ?_
    refine SP_region ?_
    refine SPL_y (y_move rfl) rfl ?_
    refine SPL_y (y_nil rfl) rfl ?_
    refine SPL_y (y_fa fld_191_3 rfl) rfl ?_
    refine SPL_y (y_load Tryz.isAgg188 rfl (by repeat (first | exact Cell.head rfl | apply Cell.tail))) rfl ?_
    refine SPL_y (y_len_l Tryz.underlying188 rfl) rfl ?_
    refine SPL_ifn (y_eql rfl rfl) rfl ?_ ?_
    · intro h14_5
      refine SPL_nil ?_
      refine thenP_n ?_
      refine SP_cond_f rfl ?_
      refine SP_skip ?_
      refine thenP_n ?_
      refine SP_seq ?_
      refine SP_region ?_
      refine SPL_y (y_move rfl) rfl ?_
      refine SPL_y (y_assign rfl) rfl ?_
      refine SPL_nil ?_
      refine thenP_n ?_
      refine SP_ret ?_
      refine bodyP_ret (H' := [List.flatten [blk k 191 [pv, uv, .slice ta1 (C1.st.length + b.res.length) tc1, .slice (some ⟨bo, 0, none⟩) ((C1.opn.length : Int) - 1).toNat oc, .slice ca C1.code.length cc, mv], st1, blk bo 230 (la ++ [S b.res, S b.carry, I b.height, I b.head, .bool b.dead, .func (.func 151) #[] #[.pointer (some ⟨kc2, 0, none⟩), .pointer (some ⟨ac2, 0, none⟩)], .slice wa b.wait.length wc] ++ lb ++ spo), s1, cdj]]) (Res1 rfl rfl) (by repeat (first | exact Part.nil _ | (apply Part.cons; (first | exact P0 | exact P1 | exact P2 | exact P3 | exact P4 | exact P5 | exact P6 | exact P7 | exact P8 | exact P9 | exact P10 | exact P11 | exact P12 | exact P13 | exact P14 | exact P15 | exact P16 | exact P17 | exact P18 | exact P19 | exact P20 | exact P21 | exact P22 | exact P23)) | (apply Part.flat; simp only [List.cons_append, List.nil_append]) | (apply Part.nilc))) ?_
      have hcode' : code = fillC C1.code (b.wait ++ [a]) (C1.code.length : Int) := by rw [hcode, List.take_of_length_le (by first | omega | (simp; omega))]
      have hwl : b.wait ++ b.alt.toList = (b.wait ++ [a]) := by simp [haa]
      have hcl : code.length = C1.code.length := by rw [hcode', fillC_len]
      have e : leave C = ({ st := C1.st ++ b.res, opn := C1.opn.take (C1.opn.length - 1), code := code }, 6) := by
        unfold leave; rw [hP]; dsimp only; rw [htop1, hwl, ← hcode']
        rw [if_neg (show ¬ C1.opn.length = 1 by omega), if_pos ⟨hq, fun h => h6_2 (by rw [h]; rfl)⟩]
      rw [e]
      exact ⟨_, rfl, rfl, isChk.intro (by simp) (by rw [List.length_take]; omega) (by simp [hcl]) (by simpa [bytesV_append] using ht1) (hop.cutMid hla (by omega) (by omega)) hpre hcj⟩
    intro h14_5
    refine SPL_nil ?_
    refine thenP_n ?_
    refine SP_cond_t rfl ?_
    refine SP_region ?_
    refine SPL_y (y_move rfl) rfl ?_
    refine SPL_y (y_move rfl) rfl ?_
    refine SPL_y (y_nil rfl) rfl ?_
    refine SPL_y (y_fa fld_191_4 rfl) rfl ?_
    refine SPL_y (y_load Tryz.isAgg106 rfl (by repeat (first | exact Cell.head rfl | apply Cell.tail))) rfl ?_
    refine SPL_y (y_build B181 rfl rfl (by simp only [fillL, List.foldl_cons, List.foldl_nil, List.set_cons_zero, List.set_cons_succ]; exact rfl)) rfl ?_
    refine SPL_one rfl (SP1_slice1 el_106 rfl rfl rfl rfl rfl ?_)
    intro b85
    refine SPL_one rfl (SP1_append el_106 (.inl Tryz.underlying106) rfl rfl hcj (by first | exact P0 | exact P1 | exact P2 | exact P3 | exact P4 | exact P5 | exact P6 | exact P7 | exact P8 | exact P9 | exact P10 | exact P11 | exact P12 | exact P13 | exact P14 | exact P15 | exact P16 | exact P17 | exact P18 | exact P19 | exact P20 | exact P21 | exact P22 | exact P23) (Src.of (by repeat (first | exact Cells.all _ | exact Cells.head rfl | apply Cells.tail)) (by rfl)) (by rfl) (by omega) rfl ?_)
    intro ca2 cc2 cd2 hcd2
    refine SPL_y (y_nil rfl) rfl ?_
    refine SPL_y (y_fa fld_191_4 rfl) rfl ?_
    refine SPL_one rfl (SP1_store Tryz.sizeOf106 rfl rfl rfl (by first | exact U0 | exact U1 | exact U2 | exact U3 | exact U4 | exact U5 | exact U6 | exact U7 | exact U8 | exact U9 | exact U10 | exact U11 | exact U12 | exact U13 | exact U14 | exact U15 | exact U16 | exact U17 | exact U18 | exact U19 | exact U20 | exact U21 | exact U22 | exact U23) (by rfl) ?_)
    refine SPL_nil ?_
    refine thenP_n ?_
    refine SP_seq ?_
    refine SP_region ?_
    refine SPL_y (y_move rfl) rfl ?_
    refine SPL_y (y_assign rfl) rfl ?_
    refine SPL_nil ?_
    refine thenP_n ?_
    refine SP_ret ?_
    refine bodyP_ret (H' := [List.flatten [blk k 191 [pv, uv, .slice ta1 (C1.st.length + b.res.length) tc1, .slice (some ⟨bo, 0, none⟩) ((C1.opn.length : Int) - 1).toNat oc, .slice ca2 (C1.code.length + 1) cc2, mv], st1, blk bo 230 (la ++ [S b.res, S b.carry, I b.height, I b.head, .bool b.dead, .func (.func 151) #[] #[.pointer (some ⟨kc2, 0, none⟩), .pointer (some ⟨ac2, 0, none⟩)], .slice wa b.wait.length wc] ++ lb ++ spo), s1, cd2]]) (Res1 rfl rfl) (by repeat (first | exact Part.nil _ | (apply Part.cons; (first | exact P0 | exact P1 | exact P2 | exact P3 | exact P4 | exact P5 | exact P6 | exact P7 | exact P8 | exact P9 | exact P10 | exact P11 | exact P12 | exact P13 | exact P14 | exact P15 | exact P16 | exact P17 | exact P18 | exact P19 | exact P20 | exact P21 | exact P22 | exact P23)) | (apply Part.flat; simp only [List.cons_append, List.nil_append]) | (apply Part.nilc))) ?_
    have hcode' : code = fillC C1.code (b.wait ++ [a]) (C1.code.length : Int) := by rw [hcode, List.take_of_length_le (by first | omega | (simp; omega))]
    have hwl : b.wait ++ b.alt.toList = (b.wait ++ [a]) := by simp [haa]
    have hcl : code.length = C1.code.length := by rw [hcode', fillC_len]
    have e : leave C = ({ st := C1.st ++ b.res, opn := C1.opn.take (C1.opn.length - 1), code := code ++ [⟨5, 0, 0, 0⟩] }, 6) := by
      unfold leave; rw [hP]; dsimp only; rw [htop1, hwl, ← hcode']
      rw [if_pos (show C1.opn.length = 1 by omega), if_pos ⟨hq, fun h => h6_2 (by rw [h]; rfl)⟩]
    rw [e]
    exact ⟨_, rfl, rfl, isChk.intro (by simp) (by rw [List.length_take]; omega) (by simp [hcl]) (by simpa [bytesV_append] using ht1) (hop.cutMid hla (by omega) (by omega)) hpre (by rw [List.flatMap_append]; exact hcd2)⟩

end Go.Sl
