/- Walks: package vm, return and unwind (made by program out of short notes) -/
import Derived.Test.Qxb6500573aGreatDoorBG
import Derived.Test.Qxb6500573aGreatDoorWVmW
namespace Go.Sl
open Go Go.Wl Go.Proofs
set_option maxRecDepth 100000
set_option linter.unusedVariables false
set_option linter.unusedSimpArgs false
theorem rd_badF {rb lb cap : Nat} {sp : List Value × (Nat × Nat)} {r : Rd} {H : Hp} (h : r.bad = false) : Cell (rdSeg rb lb cap sp r :: H) rb (0 + 2) (.bool false) := by
  have := rd_bad (rb := rb) (lb := lb) (cap := cap) (sp := sp) (r := r) (H := H)
  rwa [h] at this
theorem rd_cells {rb lb cap : Nat} {sp : List Value × (Nat × Nat)} {r : Rd} {H : Hp} {j n : Nat} (h : j + n ≤ r.l.length) : Cells (rdSeg rb lb cap sp r :: H) lb j (bytesV ((r.l.drop j).take n)) := seg_cells (s := blkF lb 5 (bytesV r.l ++ sp.1) sp.2) (by simp) (Cells.headF (H := []) (by
  rw [bytesV_len, List.length_take, List.length_drop, Nat.min_eq_left (by omega), List.drop_append_of_le_length (by rw [bytesV_len]; omega)]
  unfold bytesV
  rw [← List.map_drop, List.take_append_of_le_length (by rw [List.length_map, List.length_drop]; omega), List.map_take]))
theorem rd_none {rb lb cap : Nat} {sp : List Value × (Nat × Nat)} {r : Rd} {H : Hp} {o : Nat} : Cells (rdSeg rb lb cap sp r :: H) lb o [] := seg_cells (s := blkF lb 5 (bytesV r.l ++ sp.1) sp.2) (by simp) (Cells.headF (H := []) rfl)
theorem tkV_any {rb lb cap n : Nat} {sp : List Value × (Nat × Nat)} {r : Rd} (hr : rdOk cap r) (h : (tkR r n).bad = false) : ∃ o, tkV lb cap r n = .slice (some ⟨lb, o, none⟩) n (cap - r.i) ∧ ∀ (r' : Rd) (H : Hp), r'.l = r.l → Cells (rdSeg rb lb cap sp r' :: H) lb o (bytesV ((r.l.drop r.i).take n)) := by
  obtain ⟨h1, h2, _⟩ := tk_good h
  obtain ⟨g1, g2, g3⟩ := hr
  unfold tkOk at h2
  have e : tkV lb cap r n = .slice (winA (some ⟨lb, 0, none⟩) 1 cap r.i) n (cap - r.i) := by
    unfold tkV
    rw [if_neg (by rw [h1]; decide), if_pos h2]
  by_cases hc : cap = r.i
  · refine ⟨0, by rw [e]; simp [winA, hc], fun r' H hl => ?_⟩
    have : n = 0 := by omega
    subst this
    exact rd_none
  · refine ⟨0 + r.i * 1, by rw [e, winA_some hc], fun r' H hl => ?_⟩
    rw [show 0 + r.i * 1 = r.i from by omega, ← hl]
    exact rd_cells (by rw [hl]; omega)
theorem _root_.Go.Wl.rdOk.nx {cap n : Nat} {r r' : Rd} (hr : rdOk cap r) (h : nx r n = some r') : rdOk cap r' := by
  have := hr.tk n
  rwa [(nx_some h).2.1] at this
theorem nx_l {r r' : Rd} {n : Nat} (h : nx r n = some r') : r'.l = r.l := by
  rw [(nx_some h).2.2.2.2]
theorem nx_bad {r r' : Rd} {n : Nat} (h : nx r n = some r') : r'.bad = false := by
  have := nx_some h
  rw [← this.2.1]; exact this.1
theorem wrapU {n : Int} (h : 0 ≤ n ∧ n < 18446744073709551616) : IntKind.u64.wrap n = n := by
  have e : IntKind.u64.wrap n = n % 18446744073709551616 := by simp [IntKind.wrap, IntKind.bits, IntKind.signed]
  rw [e]; omega
theorem shl64 {c : Nat} (hc : c < 72057594037927936) : IntKind.u64.wrap (((c : Nat) : Int) * 2 ^ (min (8 : Int).toNat IntKind.u64.bits)) = ((c * 256 : Nat) : Int) := by
  rw [show (2 : Int) ^ (min (8 : Int).toNat IntKind.u64.bits) = 256 from by decide, wrapU (by omega)]
  omega
theorem or_byte64 {a c : Nat} (ha : a < 256) (hc : c < 72057594037927936) : bitI .or .u64 ((c * 256 : Nat) : Int) ((a : Nat) : Int) = ((a + 256 * c : Nat) : Int) := by
  show IntKind.u64.wrap ((BitVec.ofInt 64 ((c * 256 : Nat) : Int) ||| BitVec.ofInt 64 ((a : Nat) : Int)).toNat : Int) = _
  have e2 := Nat.two_pow_add_eq_or_of_lt (i := 8) (b := a) (by omega) c
  rw [BitVec.ofInt_natCast, BitVec.ofInt_natCast, BitVec.toNat_or, BitVec.toNat_ofNat, BitVec.toNat_ofNat, Nat.mod_eq_of_lt (show a < 2 ^ 64 by omega), Nat.mod_eq_of_lt (show c * 256 < 2 ^ 64 by omega), show c * 256 = 2 ^ 8 * c from by omega, ← e2, wrapU (by omega)]
  omega
theorem leN_step (l : List UInt8) (i : Nat) {k : Nat} (h : k < 8) : leN l (i + k) (8 - k) = (l.getD (i + k) 0).toNat + 256 * leN l (i + (k + 1)) (8 - (k + 1)) := by
  rw [show 8 - k = (8 - (k + 1)) + 1 from by omega]
  rfl
theorem leN_56 (l : List UInt8) (i : Nat) {j : Nat} (h : j ≤ 7) : leN l i j < 72057594037927936 := by
  have h1 := leN_lt l i j
  have h2 : 256 ^ j ≤ 256 ^ 7 := Nat.pow_le_pow_right (by decide) h
  have h3 : 256 ^ 7 = 72057594037927936 := by decide
  omega
theorem bytesV_at {l : List UInt8} {j : Nat} (h : j < l.length) : (bytesV l)[j]? = some (.int .u8 ((l[j].toNat : Nat) : Int)) := by
  unfold bytesV
  rw [List.getElem?_map, List.getElem?_eq_getElem h]
  rfl
theorem bytesV_oneA (l : List UInt8) : (bytesV l).all Value.oneCell' = true := by
  unfold bytesV
  induction l with
  | nil => rfl
  | cons x l ih => rw [List.map_cons, List.all_cons, ih]; rfl
set_option maxHeartbeats 4000000 in
theorem vm_constant (b : VB) (ph : PH) (hh : List TH) {m : VM} (rb lb cap : Nat) (sp : List Value × (Nat × Nat)) {r : Rd} (hr : rdOk cap r) {x : V} {r' : Rd} (hP : konM r = some (x, r')) (hl : m.pg.consts.length < 1000000) (seg : Seg) (hM : isVM b ph hh m seg) : Spec Tryz.prog 208 [pt b.vb, pt rb] [seg, rdSeg rb lb cap sp (r)] (Ret fun w H => w = .tuple #[] ∧ ∃ ph' seg', isVM b ph' hh { m with pg := { m.pg with consts := m.pg.consts ++ [x] } } seg' ∧ H = [seg', rdSeg rb lb cap sp (r')]) := by
  unfold konM at hP
  refine Spec_enter Tryz.func208 rfl Tryz.ntmps208 rfl ?_
  show SP _ _ _ _ _ [(0, _), (1, _)] _
  refine SP_seq ?_
  refine SP_region ?_
  refine SPL_y (y_move rfl) rfl ?_
  obtain ⟨r1, hq0, hP⟩ := bnd1 hP
  refine SPL_one rfl (SP1_call (rd_u8 rb lb cap sp r hr) Tryz.call131 rfl rfl (by repeat (first | exact Part.nil _ | (apply Part.cons; with_reducible (first | exact P0 | exact P1 | exact P2 | exact P3 | exact P4 | exact P5 | exact P6 | exact P7 | exact P8 | exact P9 | exact P10 | exact P11 | exact P12 | exact P13 | exact P14 | exact P15 | exact P16 | exact P17 | exact P18 | exact P19 | exact P20 | exact P21 | exact P22 | exact P23)) | (apply Part.flat; simp only [List.cons_append, List.nil_append]) | (apply Part.cons; (first | exact P0 | exact P1 | exact P2 | exact P3 | exact P4 | exact P5 | exact P6 | exact P7 | exact P8 | exact P9 | exact P10 | exact P11 | exact P12 | exact P13 | exact P14 | exact P15 | exact P16 | exact P17 | exact P18 | exact P19 | exact P20 | exact P21 | exact P22 | exact P23)) | (apply Part.nilc))) ?_)
  rintro v post H' ⟨rfl, rfl⟩ hH
  try simp only [List.cons_append, List.nil_append] at hH
  subst hH
  rw [u8M_nx hq0, (nx_some hq0).2.1]
  replace hr := hr.nx hq0
  refine SPL_y (y_assign rfl) rfl ?_
  refine SPL_nil ?_
  refine thenP_n ?_
  refine SP_seq ?_
  refine SP_region ?_
  refine SPL_y (y_move rfl) rfl ?_
  refine SPL_nil ?_
  refine thenP_n ?_
  refine SP_block ?_
  refine SP_seq ?_
  refine SP_region ?_
  refine SPL_ifn (y_eql rfl rfl) rfl ?_ ?_
  · intro h3_0
    refine SPL_y (y_assign rfl) rfl ?_
    refine SPL_nil ?_
    refine thenP_n ?_
    refine SP_cond_f rfl ?_
    refine SP_seq ?_
    refine SP_region ?_
    refine SPL_ifn (y_eql rfl rfl) rfl ?_ ?_
    · intro h16_0
      rw [if_neg (show ¬ byA r 0 = 1 from by omega), if_neg (show ¬ byA r 0 = 2 from by omega)] at hP; cases hP
    intro h16_0
    refine SPL_y (y_assign rfl) rfl ?_
    refine SPL_nil ?_
    refine thenP_n ?_
    refine SP_cond_t rfl ?_
    refine SP_seq ?_
    refine SP_region ?_
    refine SPL_y (y_move rfl) rfl ?_
    rw [if_neg (show ¬ byA r 0 = 1 from by omega), if_pos (show byA r 0 = 2 from by omega)] at hP
    obtain ⟨r2, hq17, hP⟩ := bnd1 hP
    refine SPL_one rfl (SP1_call (rd_u8 rb lb cap sp r1 hr) Tryz.call131 rfl rfl (by repeat (first | exact Part.nil _ | (apply Part.cons; with_reducible (first | exact P0 | exact P1 | exact P2 | exact P3 | exact P4 | exact P5 | exact P6 | exact P7 | exact P8 | exact P9 | exact P10 | exact P11 | exact P12 | exact P13 | exact P14 | exact P15 | exact P16 | exact P17 | exact P18 | exact P19 | exact P20 | exact P21 | exact P22 | exact P23)) | (apply Part.flat; simp only [List.cons_append, List.nil_append]) | (apply Part.cons; (first | exact P0 | exact P1 | exact P2 | exact P3 | exact P4 | exact P5 | exact P6 | exact P7 | exact P8 | exact P9 | exact P10 | exact P11 | exact P12 | exact P13 | exact P14 | exact P15 | exact P16 | exact P17 | exact P18 | exact P19 | exact P20 | exact P21 | exact P22 | exact P23)) | (apply Part.nilc))) ?_)
    rintro v post H' ⟨rfl, rfl⟩ hH
    try simp only [List.cons_append, List.nil_append] at hH
    subst hH
    rw [u8M_nx hq17, (nx_some hq17).2.1]
    replace hr := hr.nx hq17
    refine SPL_y (y_assign rfl) rfl ?_
    refine SPL_nil ?_
    refine thenP_n ?_
    refine SP_seq ?_
    refine SP_seq ?_
    refine SP_region ?_
    refine SPL_y (y_move rfl) rfl ?_
    refine SPL_if (y_gtr rfl rfl) rfl ?_ ?_
    · intro h18_1
      rw [if_neg (by omega)] at hP; cases hP
    intro h18_1
    refine SPL_nil ?_
    refine thenP_n ?_
    refine SP_cond_f rfl ?_
    refine SP_skip ?_
    refine thenP_n ?_
    refine SP_seq ?_
    refine SP_region ?_
    refine SPL_y (y_move rfl) rfl ?_
    rw [if_pos (show byA r1 0 ≤ 40 from by omega)] at hP
    refine SPL_y (y_move rfl) rfl ?_
    refine SPL_y (y_conv Tryz.underlying5 Tryz.underlying3 rfl (show IntKind.i64.wrap ((byA r1 0 : Nat) : Int) = ((byA r1 0 : Nat) : Int) from wrap_i64 (by omega) (by have := byA_lt r1 0; omega))) rfl ?_
    obtain ⟨r3, hq20, hP⟩ := bnd1 hP
    obtain ⟨o20, ho20, hc20⟩ := tkV_any (rb := rb) (lb := lb) (sp := sp) hr (nx_some hq20).1
    refine SPL_one rfl (SP1_call (rd_take rb lb cap sp r2 hr (byA r1 0) (by have := byA_lt r1 0; omega)) Tryz.call206 rfl rfl (by repeat (first | exact Part.nil _ | (apply Part.cons; with_reducible (first | exact P0 | exact P1 | exact P2 | exact P3 | exact P4 | exact P5 | exact P6 | exact P7 | exact P8 | exact P9 | exact P10 | exact P11 | exact P12 | exact P13 | exact P14 | exact P15 | exact P16 | exact P17 | exact P18 | exact P19 | exact P20 | exact P21 | exact P22 | exact P23)) | (apply Part.flat; simp only [List.cons_append, List.nil_append]) | (apply Part.cons; (first | exact P0 | exact P1 | exact P2 | exact P3 | exact P4 | exact P5 | exact P6 | exact P7 | exact P8 | exact P9 | exact P10 | exact P11 | exact P12 | exact P13 | exact P14 | exact P15 | exact P16 | exact P17 | exact P18 | exact P19 | exact P20 | exact P21 | exact P22 | exact P23)) | (apply Part.nilc))) ?_)
    rintro v post H' ⟨rfl, rfl⟩ hH
    try simp only [List.cons_append, List.nil_append] at hH
    subst hH
    rw [ho20, (nx_some hq20).2.1]
    replace hr := hr.nx hq20
    refine SPL_y (y_assign rfl) rfl ?_
    refine SPL_nil ?_
    refine thenP_n ?_
    injection hP with hP
    injection hP with h1 h2
    subst h1
    subst h2
    obtain ⟨la, ua, ea, xa, lc, uc, ec, xc, s0, sk, s2, rfl, hks, hput⟩ := hM.opnAK
    refine SP_openAt [blk b.vb 115 [pt b.nb, pt b.tb, .slice ph.pa m.pg.protos.length ph.pc, .slice ph.da m.pg.descs.length ph.dc, .slice ph.ka m.pg.consts.length ph.kc, .slice ph.ca m.pg.code.length ph.cc, .slice la m.vs.clos.length lc, .slice ua m.vs.upix.length uc, .slice ea m.vs.cells.length ec, .slice (some ⟨b.thb, 0, none⟩) m.vs.threads.length 5, I m.vs.fuel, .slice xa m.vs.out.length xc, I m.ended], s0, sk, s2] (by first | exact P0 | exact P1 | exact P2 | exact P3 | exact P4 | exact P5 | exact P6 | exact P7 | exact P8 | exact P9 | exact P10 | exact P11 | exact P12 | exact P13 | exact P14 | exact P15 | exact P16 | exact P17 | exact P18 | exact P19 | exact P20 | exact P21 | exact P22 | exact P23) ?_
    simp only [List.cons_append, List.nil_append]
    have hrl : r2.l = r.l := by rw [nx_l hq17, nx_l hq0]
    rw [hrl] at hc20
    have hrl3 : r3.l = r.l := by rw [nx_l hq20, hrl]
    refine SP_draw 9 [(0, 0), (1, 0), (2, 0), (3, 0), (5, 0), (4, 1), (6, 1), (7, 0), (8, 2), (9, 3), (10, 0), (11, 0), (12, 3)] mixed (by kernel_rfl) (fun _ _ _ _ _ h => h) (Part.refl _) ?_
    refine SPO_p rfl (y_move rfl) rfl ?_
    refine SPO_p rfl (y_move rfl) rfl ?_
    refine SPO_p rfl (y_nil rfl) rfl ?_
    refine SPO_p rfl (y_fa fld_115_4 rfl) rfl ?_
    refine SPO_p rfl (y_move rfl) rfl ?_
    refine SPO_h rfl (y_load Tryz.isAgg90 rfl (by repeat (first | exact Cell.amid hpre rfl | exact Cell.head rfl | apply Cell.tail))) rfl ?_
    refine SPO_h rfl (y_b2s Tryz.underlying67 Tryz.underlying5 Tryz.underlying9 rfl (l := (r.l.drop r2.i).take (byA r1 0)) (by repeat (first | exact hc20 _ _ hrl3 | apply Cells.tail)) (by have := (nx_some hq20).2.2.2.1; rw [hrl] at this; rw [List.length_take, List.length_drop]; omega)) rfl ?_
    refine SPO_p rfl (y_build B42 rfl rfl (by simp only [fillL, List.foldl_cons, List.foldl_nil, List.set_cons_zero, List.set_cons_succ]; exact rfl)) rfl ?_
    refine SPO_a rfl rfl (SP1_slice1 el_90 rfl rfl rfl rfl rfl ?_)
    intro b87
    refine ⟨⟨_, (by repeat (first | exact Part.nil _ | (apply Part.cons; with_reducible (first | exact P0 | exact P1 | exact P2 | exact P3 | exact P4 | exact P5 | exact P6 | exact P7 | exact P8 | exact P9 | exact P10 | exact P11 | exact P12 | exact P13 | exact P14 | exact P15 | exact P16 | exact P17 | exact P18 | exact P19 | exact P20 | exact P21 | exact P22 | exact P23)) | (apply Part.flat; simp only [List.cons_append, List.nil_append]) | (apply Part.cons; (first | exact P0 | exact P1 | exact P2 | exact P3 | exact P4 | exact P5 | exact P6 | exact P7 | exact P8 | exact P9 | exact P10 | exact P11 | exact P12 | exact P13 | exact P14 | exact P15 | exact P16 | exact P17 | exact P18 | exact P19 | exact P20 | exact P21 | exact P22 | exact P23)) | (apply Part.nilc)))⟩, ?_⟩
    refine SPO_z (k := 0) rfl rfl (SP1_append el_90 (.inl Tryz.underlying90) rfl rfl hks (by first | exact P0 | exact P1 | exact P2 | exact P3 | exact P4 | exact P5 | exact P6 | exact P7 | exact P8 | exact P9 | exact P10 | exact P11 | exact P12 | exact P13 | exact P14 | exact P15 | exact P16 | exact P17 | exact P18 | exact P19 | exact P20 | exact P21 | exact P22 | exact P23) (Src.of (by repeat (first | exact Cells.all _ | exact Cells.amid hpre rfl (by decide) | exact Cells.head rfl | apply Cells.tail)) (by rfl)) (by rfl) (by omega) rfl ?_)
    intro ka1 kc1 sk1 hA1
    refine SPO_p rfl (y_nil rfl) rfl ?_
    refine SPO_p rfl (y_fa fld_115_4 rfl) rfl ?_
    refine SPO_z (k := 0) rfl rfl (SP1_store Tryz.sizeOf90 rfl rfl rfl (by first | exact U0 | exact U1 | exact U2 | exact U3 | exact U4 | exact U5 | exact U6 | exact U7 | exact U8 | exact U9 | exact U10 | exact U11 | exact U12 | exact U13 | exact U14 | exact U15 | exact U16 | exact U17 | exact U18 | exact U19 | exact U20 | exact U21 | exact U22 | exact U23) (by rfl) ?_)
    refine SPO_nil ?_
    refine inBlockP_n ?_
    refine bodyP_end (H' := [List.flatten [blk b.vb 115 [pt b.nb, pt b.tb, .slice ph.pa m.pg.protos.length ph.pc, .slice ph.da m.pg.descs.length ph.dc, .slice ka1 (m.pg.consts.length + 1) kc1, .slice ph.ca m.pg.code.length ph.cc, .slice la m.vs.clos.length lc, .slice ua m.vs.upix.length uc, .slice ea m.vs.cells.length ec, .slice (some ⟨b.thb, 0, none⟩) m.vs.threads.length 5, I m.vs.fuel, .slice xa m.vs.out.length xc, I m.ended], s0, sk1, s2], rdSeg rb lb cap sp (r3)]) (Res0 rfl) (by repeat (first | exact Part.nil _ | (apply Part.cons; with_reducible (first | exact P0 | exact P1 | exact P2 | exact P3 | exact P4 | exact P5 | exact P6 | exact P7 | exact P8 | exact P9 | exact P10 | exact P11 | exact P12 | exact P13 | exact P14 | exact P15 | exact P16 | exact P17 | exact P18 | exact P19 | exact P20 | exact P21 | exact P22 | exact P23)) | (apply Part.flat; simp only [List.cons_append, List.nil_append]) | (apply Part.cons; (first | exact P0 | exact P1 | exact P2 | exact P3 | exact P4 | exact P5 | exact P6 | exact P7 | exact P8 | exact P9 | exact P10 | exact P11 | exact P12 | exact P13 | exact P14 | exact P15 | exact P16 | exact P17 | exact P18 | exact P19 | exact P20 | exact P21 | exact P22 | exact P23)) | (apply Part.nilc))) ?_
    have hA1' : Arr 42 3 ka1 (m.pg.consts ++ [(⟨3, 0, (r.l.drop r2.i).take (byA r1 0)⟩ : V)]).length kc1 ((m.pg.consts ++ [(⟨3, 0, (r.l.drop r2.i).take (byA r1 0)⟩ : V)]).flatMap valV) sk1 := by
      rw [List.length_append, List.flatMap_append]; exact hA1
    have hM2 := hput (m.pg.consts ++ [(⟨3, 0, (r.l.drop r2.i).take (byA r1 0)⟩ : V)]) ka1 kc1 sk1 hA1'
    rw [List.length_append] at hM2
    exact ⟨rfl, _, _, hM2, rfl⟩
  intro h3_0
  refine SPL_y (y_assign rfl) rfl ?_
  refine SPL_nil ?_
  refine thenP_n ?_
  refine SP_cond_t rfl ?_
  refine SP_seq ?_
  refine SP_region ?_
  refine SPL_y (y_move rfl) rfl ?_
  rw [if_pos (show byA r 0 = 1 from by omega)] at hP
  obtain ⟨r2, hq4, hP⟩ := bnd1 hP
  refine SPL_one rfl (SP1_call (rd_take rb lb cap sp r1 hr 8 (by omega)) Tryz.call206 rfl rfl (by repeat (first | exact Part.nil _ | (apply Part.cons; with_reducible (first | exact P0 | exact P1 | exact P2 | exact P3 | exact P4 | exact P5 | exact P6 | exact P7 | exact P8 | exact P9 | exact P10 | exact P11 | exact P12 | exact P13 | exact P14 | exact P15 | exact P16 | exact P17 | exact P18 | exact P19 | exact P20 | exact P21 | exact P22 | exact P23)) | (apply Part.flat; simp only [List.cons_append, List.nil_append]) | (apply Part.cons; (first | exact P0 | exact P1 | exact P2 | exact P3 | exact P4 | exact P5 | exact P6 | exact P7 | exact P8 | exact P9 | exact P10 | exact P11 | exact P12 | exact P13 | exact P14 | exact P15 | exact P16 | exact P17 | exact P18 | exact P19 | exact P20 | exact P21 | exact P22 | exact P23)) | (apply Part.nilc))) ?_)
  rintro v post H' ⟨rfl, rfl⟩ hH
  try simp only [List.cons_append, List.nil_append] at hH
  subst hH
  rw [tkV_good hr (by decide) (nx_some hq4).1, (nx_some hq4).2.1]
  have hr4 := hr
  replace hr := hr.nx hq4
  refine SPL_y (y_assign rfl) rfl ?_
  refine SPL_nil ?_
  refine thenP_n ?_
  refine SP_seq ?_
  refine SP_seq ?_
  refine SP_region ?_
  refine SPL_y (y_move rfl) rfl ?_
  refine SPL_y (y_nil rfl) rfl ?_
  refine SPL_y (y_fa fld_248_2 rfl) rfl ?_
  refine SPL_y (y_load Tryz.isAgg4 rfl (by repeat (first | exact (rd_badF (nx_bad hq4)) | apply Cell.tail))) rfl ?_
  refine SPL_nil ?_
  refine thenP_n ?_
  refine SP_cond_f rfl ?_
  refine SP_skip ?_
  refine thenP_n ?_
  refine SP_seq ?_
  have hlen8 : r1.i + 8 ≤ r2.l.length := by
    have := (nx_some hq4).2.2.2.1
    rw [nx_l hq4]; exact this
  have hc8 : ∀ H : Hp, Cells (rdSeg rb lb cap sp r2 :: H) lb (0 + r1.i * 1) (bytesV ((r2.l.drop r1.i).take 8)) := fun H => by
    rw [show 0 + r1.i * 1 = r1.i from by omega]
    exact rd_cells hlen8
  have hl8 : (bytesV ((r2.l.drop r1.i).take 8)).length = 8 := by rw [bytesV_len, List.length_take, List.length_drop]; omega
  have hrl : r2.l = r.l := by rw [nx_l hq4, nx_l hq0]
  obtain ⟨L8, hL8⟩ : ∃ L8, L8 = (r2.l.drop r1.i).take 8 := ⟨_, rfl⟩
  rw [← hL8] at hc8 hl8
  have hL9 : L8.length = 8 := by rw [← hl8, bytesV_len]
  have hLat : ∀ k (hk : k < L8.length), L8[k].toNat = (r.l.getD (r1.i + k) 0).toNat := by
    intro k hk
    subst hL8
    rw [List.getElem_take, List.getElem_drop, ← hrl, List.getD_eq_getElem?_getD, List.getElem?_eq_getElem (by omega)]
    rfl
  refine SP_region ?_
  refine SPL_y (y_move rfl) rfl ?_
  refine SPL_y (y_toArr Tryz.underlying408 rfl (by omega)) rfl ?_
  refine SPL_y (y_loads Tryz.isAgg408 Tryz.sizeOf408 rfl hl8 (by repeat (first | exact hc8 _ | apply Cells.tail))) rfl ?_
  refine SPL_one rfl (SP1_alloc Tryz.zeroValue408 rfl rfl ?_)
  intro b6
  refine SPL_one rfl (SP1_storeAll (vs := bytesV L8) Tryz.sizeOf408 rfl rfl rfl hl8 (bytesV_oneA _) (by first | exact U0 | exact U1 | exact U2 | exact U3 | exact U4 | exact U5 | exact U6 | exact U7 | exact U8 | exact U9 | exact U10 | exact U11 | exact U12 | exact U13 | exact U14 | exact U15 | exact U16 | exact U17 | exact U18 | exact U19 | exact U20 | exact U21 | exact U22 | exact U23) (by rfl) ?_)
  refine SPL_nil ?_
  refine thenP_n ?_
  refine SP_seq ?_
  refine SP_region ?_
  refine SPL_y (y_assign rfl) rfl ?_
  refine SPL_nil ?_
  refine thenP_n ?_
  refine SP_seq ?_
  refine SP_seq ?_
  clear hL8
  refine SP_region ?_
  refine SPL_y (y_assign rfl) rfl ?_
  refine SPL_nil ?_
  refine thenP_n ?_
  refine SP_block ?_
  refine SP_loop (G := Nat) (fun g => g) (fun g => [(0, pt b.vb), (1, pt rb), (6, pt b6), (7, .int .u64 ((leN r.l (r1.i + g) (8 - g) : Nat) : Int)), (8, I ((g : Int) - 1))]) (fun g => [blk b6 408 (bytesV L8), seg, rdSeg rb lb cap sp (r2)]) (fun g => g ≤ 8) (8) ((Nat.le_refl _)) (by repeat (first | exact Sub.nil _ | refine Sub.cons rfl ?_)) (by repeat (first | exact Part.nil _ | (apply Part.cons; with_reducible (first | exact P0 | exact P1 | exact P2 | exact P3 | exact P4 | exact P5 | exact P6 | exact P7 | exact P8 | exact P9 | exact P10 | exact P11 | exact P12 | exact P13 | exact P14 | exact P15 | exact P16 | exact P17 | exact P18 | exact P19 | exact P20 | exact P21 | exact P22 | exact P23)) | (apply Part.flat; simp only [List.cons_append, List.nil_append]) | (apply Part.cons; (first | exact P0 | exact P1 | exact P2 | exact P3 | exact P4 | exact P5 | exact P6 | exact P7 | exact P8 | exact P9 | exact P10 | exact P11 | exact P12 | exact P13 | exact P14 | exact P15 | exact P16 | exact P17 | exact P18 | exact P19 | exact P20 | exact P21 | exact P22 | exact P23)) | (apply Part.nilc))) ?_
  intro n hn
  refine SP_seq ?_
  refine SP_seq ?_
  refine SP_region ?_
  refine SPL_y (y_move rfl) rfl ?_
  refine SPL_if (y_geq rfl rfl) rfl ?_ ?_
  · intro h9_1
    refine SPL_nil ?_
    refine thenP_n ?_
    refine SP_cond_t rfl ?_
    refine SP_skip ?_
    refine thenP_n ?_
    refine SP_seq ?_
    refine SP_block ?_
    refine SP_region ?_
    refine SPL_y (y_move rfl) rfl ?_
    obtain ⟨k, rfl⟩ : ∃ k, n = k + 1 := ⟨n - 1, by omega⟩
    obtain ⟨bk, hbk, hbe, hbc⟩ : ∃ bk : Nat, bk < 256 ∧ bk = (r.l.getD (r1.i + k) 0).toNat ∧ ∀ H : Hp, Cell (blk b6 408 (bytesV L8) :: H) b6 (0 + (((k + 1 : Nat) : Int) - 1).toNat * 1) (.int .u8 ((bk : Nat) : Int)) := ⟨(L8[k]'(by omega)).toNat, UInt8.toNat_lt _, hLat k (by omega), fun H => Cell.head (by rw [show 0 + (((k + 1 : Nat) : Int) - 1).toNat * 1 = k from by omega]; exact bytesV_at (by omega))⟩
    refine SPL_y (y_shl rfl rfl (by decide) (shl64 (leN_56 r.l (r1.i + (k + 1)) (by omega)))) rfl ?_
    refine SPL_y (y_move rfl) rfl ?_
    refine SPL_y (y_ia_arr Tryz.underlying408 Tryz.sizeOf5 rfl rfl (by omega)) rfl ?_
    refine SPL_y (y_load Tryz.isAgg5 rfl (by repeat (first | exact (hbc _) | apply Cell.tail))) rfl ?_
    refine SPL_y (y_conv Tryz.underlying5 Tryz.underlying40 rfl (show IntKind.u64.wrap ((bk : Nat) : Int) = ((bk : Nat) : Int) from wrapU (by omega))) rfl ?_
    refine SPL_y (y_or rfl rfl (or_byte64 hbk (leN_56 r.l (r1.i + (k + 1)) (by omega)))) rfl ?_
    rw [hbe, ← leN_step r.l r1.i (show k < 8 from by omega)]
    refine SPL_y (y_assign rfl) rfl ?_
    refine SPL_nil ?_
    refine inBlockP_n ?_
    refine thenP_n ?_
    refine SP_region ?_
    refine SPL_y (y_move rfl) rfl ?_
    refine SPL_y (y_subE rfl rfl (c := ((k : Nat) : Int) - 1) (by omega) (by omega)) rfl ?_
    refine SPL_y (y_assign rfl) rfl ?_
    refine SPL_nil ?_
    refine thenP_n ?_
    exact Again.intro (k) ((by omega)) (by omega) (by repeat (first | exact Sub.nil _ | refine Sub.cons rfl ?_)) (by repeat (first | exact Part.nil _ | (apply Part.cons; with_reducible (first | exact P0 | exact P1 | exact P2 | exact P3 | exact P4 | exact P5 | exact P6 | exact P7 | exact P8 | exact P9 | exact P10 | exact P11 | exact P12 | exact P13 | exact P14 | exact P15 | exact P16 | exact P17 | exact P18 | exact P19 | exact P20 | exact P21 | exact P22 | exact P23)) | (apply Part.flat; simp only [List.cons_append, List.nil_append]) | (apply Part.cons; (first | exact P0 | exact P1 | exact P2 | exact P3 | exact P4 | exact P5 | exact P6 | exact P7 | exact P8 | exact P9 | exact P10 | exact P11 | exact P12 | exact P13 | exact P14 | exact P15 | exact P16 | exact P17 | exact P18 | exact P19 | exact P20 | exact P21 | exact P22 | exact P23)) | (apply Part.nilc)))
  intro h9_1
  refine SPL_nil ?_
  refine thenP_n ?_
  refine SP_cond_f rfl ?_
  refine SP_exit ?_
  refine thenP_exit ?_
  refine thenP_exit ?_
  refine inBlockP_hit ?_
  refine thenP_n ?_
  refine SP_seq ?_
  have hn0 : n = 0 := by omega
  subst hn0
  rw [show leN r.l (r1.i + 0) (8 - 0) = leN r.l r1.i 8 from rfl]
  refine SP_region ?_
  refine SPL_y (y_move rfl) rfl ?_
  refine SPL_y (y_nil rfl) rfl ?_
  refine SPL_y (y_fa fld_115_0 rfl) rfl ?_
  refine SPL_y (y_load Tryz.isAgg37 rfl (by repeat (first | exact hM.num | apply Cell.tail))) rfl ?_
  refine SPL_y (y_move rfl) rfl ?_
  refine SPL_y (y_move rfl) rfl ?_
  refine SPL_one rfl (SP1_call (num_Cmp _ 2 (leN r.l r1.i 8) (leN r.l r1.i 8)) Tryz.call133 rfl rfl (by repeat (first | exact Part.nil _ | (apply Part.cons; with_reducible (first | exact P0 | exact P1 | exact P2 | exact P3 | exact P4 | exact P5 | exact P6 | exact P7 | exact P8 | exact P9 | exact P10 | exact P11 | exact P12 | exact P13 | exact P14 | exact P15 | exact P16 | exact P17 | exact P18 | exact P19 | exact P20 | exact P21 | exact P22 | exact P23)) | (apply Part.flat; simp only [List.cons_append, List.nil_append]) | (apply Part.cons; (first | exact P0 | exact P1 | exact P2 | exact P3 | exact P4 | exact P5 | exact P6 | exact P7 | exact P8 | exact P9 | exact P10 | exact P11 | exact P12 | exact P13 | exact P14 | exact P15 | exact P16 | exact P17 | exact P18 | exact P19 | exact P20 | exact P21 | exact P22 | exact P23)) | (apply Part.nilc))) ?_)
  rintro v post H' ⟨rfl, rfl⟩ hH
  rcases hcm : cmpM 2 (leN r.l r1.i 8) (leN r.l r1.i 8) with _ | _
  · try simp only [List.cons_append, List.nil_append] at hH
    subst hH
    refine SPL_y (y_assign rfl) rfl ?_
    refine SPL_nil ?_
    refine thenP_n ?_
    refine SP_seq ?_
    refine SP_seq ?_
    refine SP_region ?_
    refine SPL_y (y_move rfl) rfl ?_
    refine SPL_y (y_move rfl) rfl ?_
    refine SPL_gn rfl rfl rfl rfl ?_
    refine SPL_gn rfl rfl rfl rfl ?_
    refine SPL_y (y_pick_f rfl rfl) rfl ?_
    refine SPL_nil ?_
    refine thenP_n ?_
    refine SP_cond_f rfl ?_
    refine SP_skip ?_
    refine thenP_n ?_
    rw [if_neg (by rintro ⟨z1, z2⟩; first | omega | (rw [hcm] at z1; cases z1))] at hP
    injection hP with hP
    injection hP with h1 h2
    subst h1
    subst h2
    obtain ⟨la, ua, ea, xa, lc, uc, ec, xc, s0, sk, s2, rfl, hks, hput⟩ := hM.opnAK
    refine SP_openAt [blk b.vb 115 [pt b.nb, pt b.tb, .slice ph.pa m.pg.protos.length ph.pc, .slice ph.da m.pg.descs.length ph.dc, .slice ph.ka m.pg.consts.length ph.kc, .slice ph.ca m.pg.code.length ph.cc, .slice la m.vs.clos.length lc, .slice ua m.vs.upix.length uc, .slice ea m.vs.cells.length ec, .slice (some ⟨b.thb, 0, none⟩) m.vs.threads.length 5, I m.vs.fuel, .slice xa m.vs.out.length xc, I m.ended], s0, sk, s2] (by first | exact P0 | exact P1 | exact P2 | exact P3 | exact P4 | exact P5 | exact P6 | exact P7 | exact P8 | exact P9 | exact P10 | exact P11 | exact P12 | exact P13 | exact P14 | exact P15 | exact P16 | exact P17 | exact P18 | exact P19 | exact P20 | exact P21 | exact P22 | exact P23) ?_
    simp only [List.cons_append, List.nil_append]
    refine SP_region ?_
    refine SPL_y (y_move rfl) rfl ?_
    refine SPL_y (y_move rfl) rfl ?_
    refine SPL_y (y_nil rfl) rfl ?_
    refine SPL_y (y_fa fld_115_4 rfl) rfl ?_
    refine SPL_y (y_load Tryz.isAgg90 rfl (by repeat (first | exact Cell.amid hpre rfl | exact Cell.head rfl | apply Cell.tail))) rfl ?_
    refine SPL_y (y_move rfl) rfl ?_
    refine SPL_y (y_build B42 rfl rfl (by simp only [fillL, List.foldl_cons, List.foldl_nil, List.set_cons_zero, List.set_cons_succ]; exact rfl)) rfl ?_
    refine SPL_one rfl (SP1_slice1 el_90 rfl rfl rfl rfl rfl ?_)
    intro b62
    refine SPL_one rfl (SP1_append el_90 (.inl Tryz.underlying90) rfl rfl hks (by first | exact P0 | exact P1 | exact P2 | exact P3 | exact P4 | exact P5 | exact P6 | exact P7 | exact P8 | exact P9 | exact P10 | exact P11 | exact P12 | exact P13 | exact P14 | exact P15 | exact P16 | exact P17 | exact P18 | exact P19 | exact P20 | exact P21 | exact P22 | exact P23) (Src.of (by repeat (first | exact Cells.all _ | exact Cells.amid hpre rfl (by decide) | exact Cells.head rfl | apply Cells.tail)) (by rfl)) (by rfl) (by omega) rfl ?_)
    intro ka1 kc1 sk1 hA1
    refine SPL_y (y_nil rfl) rfl ?_
    refine SPL_y (y_fa fld_115_4 rfl) rfl ?_
    refine SPL_one rfl (SP1_store Tryz.sizeOf90 rfl rfl rfl (by first | exact U0 | exact U1 | exact U2 | exact U3 | exact U4 | exact U5 | exact U6 | exact U7 | exact U8 | exact U9 | exact U10 | exact U11 | exact U12 | exact U13 | exact U14 | exact U15 | exact U16 | exact U17 | exact U18 | exact U19 | exact U20 | exact U21 | exact U22 | exact U23) (by rfl) ?_)
    refine SPL_nil ?_
    refine inBlockP_n ?_
    refine bodyP_end (H' := [List.flatten [blk b.vb 115 [pt b.nb, pt b.tb, .slice ph.pa m.pg.protos.length ph.pc, .slice ph.da m.pg.descs.length ph.dc, .slice ka1 (m.pg.consts.length + 1) kc1, .slice ph.ca m.pg.code.length ph.cc, .slice la m.vs.clos.length lc, .slice ua m.vs.upix.length uc, .slice ea m.vs.cells.length ec, .slice (some ⟨b.thb, 0, none⟩) m.vs.threads.length 5, I m.vs.fuel, .slice xa m.vs.out.length xc, I m.ended], s0, sk1, s2], rdSeg rb lb cap sp (r2)]) (Res0 rfl) (by repeat (first | exact Part.nil _ | (apply Part.cons; with_reducible (first | exact P0 | exact P1 | exact P2 | exact P3 | exact P4 | exact P5 | exact P6 | exact P7 | exact P8 | exact P9 | exact P10 | exact P11 | exact P12 | exact P13 | exact P14 | exact P15 | exact P16 | exact P17 | exact P18 | exact P19 | exact P20 | exact P21 | exact P22 | exact P23)) | (apply Part.flat; simp only [List.cons_append, List.nil_append]) | (apply Part.cons; (first | exact P0 | exact P1 | exact P2 | exact P3 | exact P4 | exact P5 | exact P6 | exact P7 | exact P8 | exact P9 | exact P10 | exact P11 | exact P12 | exact P13 | exact P14 | exact P15 | exact P16 | exact P17 | exact P18 | exact P19 | exact P20 | exact P21 | exact P22 | exact P23)) | (apply Part.nilc))) ?_
    have hA1' : Arr 42 3 ka1 (m.pg.consts ++ [(⟨2, (leN r.l r1.i 8 : Nat), []⟩ : V)]).length kc1 ((m.pg.consts ++ [(⟨2, (leN r.l r1.i 8 : Nat), []⟩ : V)]).flatMap valV) sk1 := by
      rw [List.length_append, List.flatMap_append]; exact hA1
    have hM2 := hput (m.pg.consts ++ [(⟨2, (leN r.l r1.i 8 : Nat), []⟩ : V)]) ka1 kc1 sk1 hA1'
    rw [List.length_append] at hM2
    exact ⟨rfl, _, _, hM2, rfl⟩
  · try simp only [List.cons_append, List.nil_append] at hH
    subst hH
    refine SPL_y (y_assign rfl) rfl ?_
    refine SPL_nil ?_
    refine thenP_n ?_
    refine SP_seq ?_
    refine SP_seq ?_
    refine SP_region ?_
    refine SPL_y (y_move rfl) rfl ?_
    refine SPL_y (y_move rfl) rfl ?_
    refine SPL_gy rfl rfl ?_
    refine SPL_y (y_move rfl) rfl ?_
    refine SPL_gy rfl rfl ?_
    refine SPL_if (y_neq rfl rfl) rfl ?_ ?_
    · intro h13_3
      rw [if_pos ⟨hcm, by omega⟩] at hP; cases hP
    intro h13_3
    refine SPL_y (y_pick_t rfl rfl) rfl ?_
    refine SPL_nil ?_
    refine thenP_n ?_
    refine SP_cond_f rfl ?_
    refine SP_skip ?_
    refine thenP_n ?_
    rw [if_neg (by rintro ⟨z1, z2⟩; first | omega | (rw [hcm] at z1; cases z1))] at hP
    injection hP with hP
    injection hP with h1 h2
    subst h1
    subst h2
    obtain ⟨la, ua, ea, xa, lc, uc, ec, xc, s0, sk, s2, rfl, hks, hput⟩ := hM.opnAK
    refine SP_openAt [blk b.vb 115 [pt b.nb, pt b.tb, .slice ph.pa m.pg.protos.length ph.pc, .slice ph.da m.pg.descs.length ph.dc, .slice ph.ka m.pg.consts.length ph.kc, .slice ph.ca m.pg.code.length ph.cc, .slice la m.vs.clos.length lc, .slice ua m.vs.upix.length uc, .slice ea m.vs.cells.length ec, .slice (some ⟨b.thb, 0, none⟩) m.vs.threads.length 5, I m.vs.fuel, .slice xa m.vs.out.length xc, I m.ended], s0, sk, s2] (by first | exact P0 | exact P1 | exact P2 | exact P3 | exact P4 | exact P5 | exact P6 | exact P7 | exact P8 | exact P9 | exact P10 | exact P11 | exact P12 | exact P13 | exact P14 | exact P15 | exact P16 | exact P17 | exact P18 | exact P19 | exact P20 | exact P21 | exact P22 | exact P23) ?_
    simp only [List.cons_append, List.nil_append]
    refine SP_region ?_
    refine SPL_y (y_move rfl) rfl ?_
    refine SPL_y (y_move rfl) rfl ?_
    refine SPL_y (y_nil rfl) rfl ?_
    refine SPL_y (y_fa fld_115_4 rfl) rfl ?_
    refine SPL_y (y_load Tryz.isAgg90 rfl (by repeat (first | exact Cell.amid hpre rfl | exact Cell.head rfl | apply Cell.tail))) rfl ?_
    refine SPL_y (y_move rfl) rfl ?_
    refine SPL_y (y_build B42 rfl rfl (by simp only [fillL, List.foldl_cons, List.foldl_nil, List.set_cons_zero, List.set_cons_succ]; exact rfl)) rfl ?_
    refine SPL_one rfl (SP1_slice1 el_90 rfl rfl rfl rfl rfl ?_)
    intro b62
    refine SPL_one rfl (SP1_append el_90 (.inl Tryz.underlying90) rfl rfl hks (by first | exact P0 | exact P1 | exact P2 | exact P3 | exact P4 | exact P5 | exact P6 | exact P7 | exact P8 | exact P9 | exact P10 | exact P11 | exact P12 | exact P13 | exact P14 | exact P15 | exact P16 | exact P17 | exact P18 | exact P19 | exact P20 | exact P21 | exact P22 | exact P23) (Src.of (by repeat (first | exact Cells.all _ | exact Cells.amid hpre rfl (by decide) | exact Cells.head rfl | apply Cells.tail)) (by rfl)) (by rfl) (by omega) rfl ?_)
    intro ka1 kc1 sk1 hA1
    refine SPL_y (y_nil rfl) rfl ?_
    refine SPL_y (y_fa fld_115_4 rfl) rfl ?_
    refine SPL_one rfl (SP1_store Tryz.sizeOf90 rfl rfl rfl (by first | exact U0 | exact U1 | exact U2 | exact U3 | exact U4 | exact U5 | exact U6 | exact U7 | exact U8 | exact U9 | exact U10 | exact U11 | exact U12 | exact U13 | exact U14 | exact U15 | exact U16 | exact U17 | exact U18 | exact U19 | exact U20 | exact U21 | exact U22 | exact U23) (by rfl) ?_)
    refine SPL_nil ?_
    refine inBlockP_n ?_
    refine bodyP_end (H' := [List.flatten [blk b.vb 115 [pt b.nb, pt b.tb, .slice ph.pa m.pg.protos.length ph.pc, .slice ph.da m.pg.descs.length ph.dc, .slice ka1 (m.pg.consts.length + 1) kc1, .slice ph.ca m.pg.code.length ph.cc, .slice la m.vs.clos.length lc, .slice ua m.vs.upix.length uc, .slice ea m.vs.cells.length ec, .slice (some ⟨b.thb, 0, none⟩) m.vs.threads.length 5, I m.vs.fuel, .slice xa m.vs.out.length xc, I m.ended], s0, sk1, s2], rdSeg rb lb cap sp (r2)]) (Res0 rfl) (by repeat (first | exact Part.nil _ | (apply Part.cons; with_reducible (first | exact P0 | exact P1 | exact P2 | exact P3 | exact P4 | exact P5 | exact P6 | exact P7 | exact P8 | exact P9 | exact P10 | exact P11 | exact P12 | exact P13 | exact P14 | exact P15 | exact P16 | exact P17 | exact P18 | exact P19 | exact P20 | exact P21 | exact P22 | exact P23)) | (apply Part.flat; simp only [List.cons_append, List.nil_append]) | (apply Part.cons; (first | exact P0 | exact P1 | exact P2 | exact P3 | exact P4 | exact P5 | exact P6 | exact P7 | exact P8 | exact P9 | exact P10 | exact P11 | exact P12 | exact P13 | exact P14 | exact P15 | exact P16 | exact P17 | exact P18 | exact P19 | exact P20 | exact P21 | exact P22 | exact P23)) | (apply Part.nilc))) ?_
    have hA1' : Arr 42 3 ka1 (m.pg.consts ++ [(⟨2, (leN r.l r1.i 8 : Nat), []⟩ : V)]).length kc1 ((m.pg.consts ++ [(⟨2, (leN r.l r1.i 8 : Nat), []⟩ : V)]).flatMap valV) sk1 := by
      rw [List.length_append, List.flatMap_append]; exact hA1
    have hM2 := hput (m.pg.consts ++ [(⟨2, (leN r.l r1.i 8 : Nat), []⟩ : V)]) ka1 kc1 sk1 hA1'
    rw [List.length_append] at hM2
    exact ⟨rfl, _, _, hM2, rfl⟩

end Go.Sl
