/- Walks: package syntax, the tree laid flat: lists (made by program out of short notes) -/
import Derived.Test.Qxb6500573aGreatDoorWFlatB
import Derived.Test.Qxb6500573aGreatDoorSlFl
namespace Go.Sl
open Go Go.Wl Go.Proofs
set_option maxRecDepth 100000
set_option linter.unusedVariables false
set_option linter.unusedSimpArgs false
theorem fl_expr (y : SX) (fc : RecF) (hr : RecFOk y fc) {t : T} {v : Value} {sn : Seg} (hN : IsN t v sn) {ns ns' : List Nd} {r : Int} {s : Seg} (hs : isNs y ns s) (hP : exprF fc t ns = some (r, ns')) : Spec Tryz.prog 195 [pt y.b, v] [s, sn] (Ret (fkOk y r ns' sn)) := by
  cases hN with
  | lit => exact fl_lit y fc hr hs hP
  | num => exact fl_num y fc hr hs hP
  | str => exact fl_str y fc hr hs hP
  | name => exact fl_name y fc hr hs hP
  | index h1 h2 => exact fl_index y fc hr h1 h2 hs hP
  | call h1 h2 => exact fl_call y fc hr h1 h2 hs hP
  | func h1 h2 => exact fl_func y fc hr h1 h2 hs hP
  | table h1 => exact fl_table y fc hr h1 hs hP
  | bin h1 h2 => exact fl_bin y fc hr h1 h2 hs hP
  | un h1 => exact fl_un y fc hr h1 hs hP
  | _ => cases hP
theorem fl_stmt (y : SX) (fc : RecF) (hr : RecFOk y fc) {t : T} {v : Value} {sn : Seg} (hN : IsN t v sn) {ns ns' : List Nd} {r : Int} {s : Seg} (hs : isNs y ns s) (hP : stmtF fc t ns = some (r, ns')) : Spec Tryz.prog 194 [pt y.b, v] [s, sn] (Ret (fkOk y r ns' sn)) := by
  cases hN with
  | asg h1 h2 => exact fl_asg y fc hr h1 h2 hs hP
  | ife h1 h2 h3 => exact fl_ife y fc hr h1 h2 h3 hs hP
  | whl h1 h2 => exact fl_whl y fc hr h1 h2 hs hP
  | ret h1 h2 => exact fl_ret y fc hr h1 h2 hs hP
  | brk => exact fl_brk y fc hr hs hP
  | locFn h1 => exact fl_locFn y fc hr h1 hs hP
  | forN h1 h2 => exact fl_forN y fc hr h1 h2 hs hP
  | @callS f b b2 s' h1 => cases f with
    | call a f l => exact fl_callS y fc hr h1 hs hP
    | _ => cases hP
  | @loc l x b m c vx sx sl aa h1 h2 => cases l with
    | nil => cases hP
    | cons t l => cases t with
      | name a q => exact fl_loc y fc hr h1 h2 hs hP
      | _ => cases hP
  | @forIn x l l' b m c m' c' vx sx s1 s2 aa aa' h1 h2 h3 => cases l with
    | nil => cases hP
    | cons t l => cases t with
      | name a q => exact fl_forIn y fc hr h1 h2 h3 hs hP
      | _ => cases hP
  | _ => cases hP
theorem asStT {t : T} {b : Nat} {q : Bool} (hn : t.isNil = false) (hq : t.isStmt = q) (w : World) : (Instr.typeAssert (.iface t.ty (pt b)) 236 231 true).run Tryz.prog w = .ok (.tuple #[bif q then .iface t.ty (pt b) else .nilIface, .bool q]) w := by
  subst hq
  cases t with
  | nil => cases hn
  | lit => exact asSt390 _ w
  | num => exact asSt393 _ w
  | str => exact asSt383 _ w
  | name => exact asSt307 _ w
  | index => exact asSt308 _ w
  | call => exact asSt302 _ w
  | func => exact asSt355 _ w
  | table => exact asSt398 _ w
  | bin => exact asSt378 _ w
  | un => exact asSt401 _ w
  | loc => exact asSt363 _ w
  | locFn => exact asSt359 _ w
  | asg => exact asSt309 _ w
  | callS => exact asSt304 _ w
  | ife => exact asSt366 _ w
  | whl => exact asSt295 _ w
  | forN => exact asSt372 _ w
  | forIn => exact asSt369 _ w
  | ret => exact asSt233 _ w
  | brk => exact asSt234 _ w
theorem asExT {t : T} {b : Nat} (hn : t.isNil = false) (hq : t.isStmt = false) (w : World) : (Instr.typeAssert (.iface t.ty (pt b)) 236 292 false).run Tryz.prog w = .ok (.iface t.ty (pt b)) w := by
  cases t with
  | nil => cases hn
  | lit => exact asEx390 _ w
  | num => exact asEx393 _ w
  | str => exact asEx383 _ w
  | name => exact asEx307 _ w
  | index => exact asEx308 _ w
  | call => exact asEx302 _ w
  | func => exact asEx355 _ w
  | table => exact asEx398 _ w
  | bin => exact asEx378 _ w
  | un => exact asEx401 _ w
  | _ => cases hq
theorem fl_lay (y : SX) (fc : RecF) (hr : RecFOk y fc) {t : T} {v : Value} {sn : Seg} (hN : IsN t v sn) {ns ns' : List Nd} {r : Int} {s : Seg} (hs : isNs y ns s) (hP : layF fc t ns = some (r, ns')) : Spec Tryz.prog 127 [pt y.b, v] [s, sn] (Ret (fkOk y r ns' sn)) := by
  have hn : t.isNil = false := by cases t <;> first | rfl | (cases hP)
  obtain ⟨nb, rfl⟩ := hN.shape hn
  unfold layF at hP
  obtain ⟨q, hq⟩ : ∃ q, t.isStmt = q := ⟨_, rfl⟩
  rw [hq] at hP
  refine Spec_enter Tryz.func127 rfl Tryz.ntmps127 rfl ?_
  show SP _ _ _ _ _ [(0, _), (1, _)] _
  refine SP_seq ?_
  refine SP_region ?_
  refine SPL_y (y_assign rfl) rfl ?_
  refine SPL_nil ?_
  refine thenP_n ?_
  refine SP_seq ?_
  refine SP_seq ?_
  refine SP_region ?_
  refine SPL_y (y_move rfl) rfl ?_
  refine SPL_y (y_assertR rfl (asStT hn hq)) rfl ?_
  refine SPL_y (y_move rfl) rfl ?_
  refine SPL_y (y_ext rfl rfl) rfl ?_
  refine SPL_y (y_ext rfl rfl) rfl ?_
  rcases q with _ | _
  · try dsimp only [cond_true, cond_false, Bool.true_or, Bool.false_or] at hP
    refine SPL_y (y_assign rfl) rfl ?_
    refine SPL_y (y_assign rfl) rfl ?_
    refine SPL_nil ?_
    refine thenP_n ?_
    refine SP_seq ?_
    refine SP_region ?_
    refine SPL_y (y_move rfl) rfl ?_
    refine SPL_nil ?_
    refine thenP_n ?_
    refine SP_cond_f rfl ?_
    refine SP_skip ?_
    refine thenP_n ?_
    refine SP_seq ?_
    refine SP_region ?_
    refine SPL_y (y_move rfl) rfl ?_
    refine SPL_y (y_move rfl) rfl ?_
    refine SPL_y (y_assertR rfl (asExT hn hq)) rfl ?_
    refine SPL_one rfl (SP1_call (fl_expr y fc hr hN hs hP) Tryz.call195 rfl rfl (by repeat (first | exact Part.nil _ | (apply Part.cons; (first | exact P0 | exact P1 | exact P2 | exact P3 | exact P4 | exact P5 | exact P6 | exact P7 | exact P8 | exact P9 | exact P10 | exact P11 | exact P12 | exact P13 | exact P14 | exact P15 | exact P16 | exact P17 | exact P18 | exact P19 | exact P20 | exact P21 | exact P22 | exact P23)) | (apply Part.flat; simp only [List.cons_append, List.nil_append]) | (apply Part.nilc))) ?_)
    rintro v post H' ⟨rfl, s3, hs3, rfl⟩ hH
    try simp only [List.cons_append, List.nil_append] at hH
    subst hH
    refine SPL_y (y_assign rfl) rfl ?_
    refine SPL_nil ?_
    refine thenP_n ?_
    refine SP_ret ?_
    refine bodyP_ret (H' := [s3, sn]) (Res1 rfl rfl) (by repeat (first | exact Part.nil _ | (apply Part.cons; (first | exact P0 | exact P1 | exact P2 | exact P3 | exact P4 | exact P5 | exact P6 | exact P7 | exact P8 | exact P9 | exact P10 | exact P11 | exact P12 | exact P13 | exact P14 | exact P15 | exact P16 | exact P17 | exact P18 | exact P19 | exact P20 | exact P21 | exact P22 | exact P23)) | (apply Part.flat; simp only [List.cons_append, List.nil_append]) | (apply Part.nilc))) ?_
    exact ⟨rfl, s3, hs3, rfl⟩
  · try dsimp only [cond_true, cond_false, Bool.true_or, Bool.false_or] at hP
    refine SPL_y (y_assign rfl) rfl ?_
    refine SPL_y (y_assign rfl) rfl ?_
    refine SPL_nil ?_
    refine thenP_n ?_
    refine SP_seq ?_
    refine SP_region ?_
    refine SPL_y (y_move rfl) rfl ?_
    refine SPL_nil ?_
    refine thenP_n ?_
    refine SP_cond_t rfl ?_
    refine SP_seq ?_
    refine SP_region ?_
    refine SPL_y (y_move rfl) rfl ?_
    refine SPL_y (y_move rfl) rfl ?_
    refine SPL_one rfl (SP1_call (fl_stmt y fc hr hN hs hP) Tryz.call194 rfl rfl (by repeat (first | exact Part.nil _ | (apply Part.cons; (first | exact P0 | exact P1 | exact P2 | exact P3 | exact P4 | exact P5 | exact P6 | exact P7 | exact P8 | exact P9 | exact P10 | exact P11 | exact P12 | exact P13 | exact P14 | exact P15 | exact P16 | exact P17 | exact P18 | exact P19 | exact P20 | exact P21 | exact P22 | exact P23)) | (apply Part.flat; simp only [List.cons_append, List.nil_append]) | (apply Part.nilc))) ?_)
    rintro v post H' ⟨rfl, s3, hs3, rfl⟩ hH
    try simp only [List.cons_append, List.nil_append] at hH
    subst hH
    refine SPL_y (y_assign rfl) rfl ?_
    refine SPL_nil ?_
    refine thenP_n ?_
    refine SP_ret ?_
    refine thenP_ret (bodyP_ret (H' := [s3, sn]) (Res1 rfl rfl) (by repeat (first | exact Part.nil _ | (apply Part.cons; (first | exact P0 | exact P1 | exact P2 | exact P3 | exact P4 | exact P5 | exact P6 | exact P7 | exact P8 | exact P9 | exact P10 | exact P11 | exact P12 | exact P13 | exact P14 | exact P15 | exact P16 | exact P17 | exact P18 | exact P19 | exact P20 | exact P21 | exact P22 | exact P23)) | (apply Part.flat; simp only [List.cons_append, List.nil_append]) | (apply Part.nilc))) ?_)
    exact ⟨rfl, s3, hs3, rfl⟩

set_option maxHeartbeats 400000 in
theorem fl_chain (y : SX) (fc : RecF) (hr : RecFOk y fc) {l : List T} {a : Option Addr} {m c : Nat} {sl : Seg} (hL : IsL l a m c sl) {ns ns' : List Nd} {r : Int} {s : Seg} (hs : isNs y ns s) (hP : chainF fc l ns = some (r, ns')) : Spec Tryz.prog 71 [pt y.b, .slice a m c] [s, sl] (Ret (fkOk y r ns' sl)) := by
  have hm := hL.len
  obtain ⟨hM, hA⟩ := hL
  rename_i vs sm sa
  subst hm
  unfold chainF at hP
  have hlb0 : l.length < 100000 := Decidable.byContradiction fun q => by rw [if_neg q] at hP; cases hP
  rw [if_pos hlb0] at hP
  refine Spec_openAt [sa, sm] (by first | exact P0 | exact P1 | exact P2 | exact P3 | exact P4 | exact P5 | exact P6 | exact P7 | exact P8 | exact P9 | exact P10 | exact P11 | exact P12 | exact P13 | exact P14 | exact P15 | exact P16 | exact P17 | exact P18 | exact P19 | exact P20 | exact P21 | exact P22 | exact P23) ?_
  simp only [List.cons_append, List.nil_append]
  refine Spec_enter Tryz.func71 rfl Tryz.ntmps71 rfl ?_
  show SP _ _ _ _ _ [(0, _), (1, _)] _
  refine SP_seq ?_
  refine SP_region ?_
  refine SPL_y (y_assign rfl) rfl ?_
  refine SPL_nil ?_
  refine thenP_n ?_
  refine SP_seq ?_
  refine SP_region ?_
  refine SPL_y (y_assign rfl) rfl ?_
  refine SPL_y (y_assign rfl) rfl ?_
  refine SPL_nil ?_
  refine thenP_n ?_
  refine SP_seq ?_
  refine SP_seq ?_
  refine SP_region ?_
  refine SPL_y (y_move rfl) rfl ?_
  refine SPL_y (y_len_l Tryz.underlying172 rfl) rfl ?_
  refine SPL_y (y_move rfl) rfl ?_
  refine SPL_nil ?_
  refine thenP_n ?_
  refine SP_block ?_
  refine SP_loop (G := Nat × Int × Int × List Nd × Seg) (fun g => l.length - g.1) (fun g => [(0, pt y.b), (5, I g.2.1), (6, I g.2.2.1), (10, .slice a l.length c), (11, I l.length), (12, I g.1)]) (fun g => [g.2.2.2.2, sa, sm]) (fun g => isNs y g.2.2.2.1 g.2.2.2.2 ∧ g.1 ≤ l.length ∧ chainL fc (l.drop g.1) g.2.1 g.2.2.1 g.2.2.2.1 = some (r, ns')) ((0, 0, 0, ns, s)) (⟨hs, Nat.zero_le _, by simpa using hP⟩) (by repeat (first | exact Sub.nil _ | refine Sub.cons rfl ?_)) (by repeat (first | exact Part.nil _ | (apply Part.cons; (first | exact P0 | exact P1 | exact P2 | exact P3 | exact P4 | exact P5 | exact P6 | exact P7 | exact P8 | exact P9 | exact P10 | exact P11 | exact P12 | exact P13 | exact P14 | exact P15 | exact P16 | exact P17 | exact P18 | exact P19 | exact P20 | exact P21 | exact P22 | exact P23)) | (apply Part.flat; simp only [List.cons_append, List.nil_append]) | (apply Part.nilc))) ?_
  rintro ⟨i, first, last, ns, s⟩ ⟨hs, hil, hP⟩
  dsimp only at hs hil hP ⊢
  refine SP_seq ?_
  refine SP_region ?_
  refine SPL_ifn (y_lss rfl rfl) rfl ?_ ?_
  · intro h3_0
    first | rw [if_neg h3_0] at hP | rw [if_pos (Decidable.not_not.1 h3_0)] at hP | skip
    refine SPL_nil ?_
    refine thenP_n ?_
    refine SP_seq ?_
    refine SP_cond_f rfl ?_
    refine SP_exit ?_
    refine thenP_exit ?_
    refine thenP_exit ?_
    refine inBlockP_hit ?_
    refine thenP_n ?_
    refine SP_seq ?_
    rw [List.drop_eq_nil_of_le (by omega), chainL] at hP
    injection hP with hP
    injection hP with h1 h2
    subst h1
    subst h2
    refine SP_region ?_
    refine SPL_y (y_move rfl) rfl ?_
    refine SPL_y (y_assign rfl) rfl ?_
    refine SPL_nil ?_
    refine thenP_n ?_
    refine SP_ret ?_
    refine bodyP_ret (H' := [s, List.flatten [sa, sm]]) (Res1 rfl rfl) (by repeat (first | exact Part.nil _ | (apply Part.cons; (first | exact P0 | exact P1 | exact P2 | exact P3 | exact P4 | exact P5 | exact P6 | exact P7 | exact P8 | exact P9 | exact P10 | exact P11 | exact P12 | exact P13 | exact P14 | exact P15 | exact P16 | exact P17 | exact P18 | exact P19 | exact P20 | exact P21 | exact P22 | exact P23)) | (apply Part.flat; simp only [List.cons_append, List.nil_append]) | (apply Part.nilc))) ?_
    exact ⟨rfl, s, hs, rfl⟩
  intro h3_0
  first | rw [if_pos h3_0] at hP | rw [if_neg h3_0] at hP | skip
  refine SPL_nil ?_
  refine thenP_n ?_
  refine SP_seq ?_
  refine SP_cond_t rfl ?_
  refine SP_skip ?_
  refine thenP_n ?_
  refine SP_seq ?_
  refine SP_block ?_
  refine SP_seq ?_
  have hin : i < l.length := by omega
  rw [List.drop_eq_getElem_cons hin, chainL] at hP
  obtain ⟨vi, s1, si, s2, hvi, hsm, hNi⟩ := hM.nth hin
  rw [hsm]
  refine SP_openAt [s1, si, s2] (by first | exact P0 | exact P1 | exact P2 | exact P3 | exact P4 | exact P5 | exact P6 | exact P7 | exact P8 | exact P9 | exact P10 | exact P11 | exact P12 | exact P13 | exact P14 | exact P15 | exact P16 | exact P17 | exact P18 | exact P19 | exact P20 | exact P21 | exact P22 | exact P23) ?_
  simp only [List.cons_append, List.nil_append]
  obtain ⟨ab, sp, rfl, _, _, rfl⟩ := hA.row (by omega)
  have hvl := hM.len
  have hce : (vs ++ sp)[0 + ((i : Nat) : Int).toNat * 1]? = some vi := by
    rw [Int.toNat_natCast, Nat.mul_one, Nat.zero_add, List.getElem?_append_left (by omega)]
    exact hvi
  refine SP_region ?_
  refine SPL_y (y_ia Tryz.underlying172 Tryz.sizeOf236 rfl rfl (by omega)) rfl ?_
  refine SPL_y (y_load Tryz.isAgg236 rfl (by repeat (first | exact Cell.head hce | apply Cell.tail))) rfl ?_
  refine SPL_y (y_assign rfl) rfl ?_
  refine SPL_nil ?_
  refine thenP_n ?_
  refine SP_seq ?_
  refine SP_region ?_
  refine SPL_y (y_move rfl) rfl ?_
  refine SPL_y (y_move rfl) rfl ?_
  obtain ⟨p5, ns5, hq5, hP⟩ := bnd2 hP
  refine SPL_one rfl (SP1_call (fl_lay y fc hr hNi hs hq5) Tryz.call127 rfl rfl (by repeat (first | exact Part.nil _ | (apply Part.cons; (first | exact P0 | exact P1 | exact P2 | exact P3 | exact P4 | exact P5 | exact P6 | exact P7 | exact P8 | exact P9 | exact P10 | exact P11 | exact P12 | exact P13 | exact P14 | exact P15 | exact P16 | exact P17 | exact P18 | exact P19 | exact P20 | exact P21 | exact P22 | exact P23)) | (apply Part.flat; simp only [List.cons_append, List.nil_append]) | (apply Part.nilc))) ?_)
  rintro v post H' ⟨rfl, s5, hs5, rfl⟩ hH
  try simp only [List.cons_append, List.nil_append] at hH
  subst hH
  refine SPL_y (y_assign rfl) rfl ?_
  refine SPL_nil ?_
  refine thenP_n ?_
  refine SP_seq ?_
  refine SP_seq ?_
  refine SP_region ?_
  refine SPL_y (y_move rfl) rfl ?_
  refine SPL_if (y_eql rfl rfl) rfl ?_ ?_
  · intro h6_1
    first | rw [if_pos h6_1] at hP | rw [if_neg h6_1] at hP | skip
    refine SPL_nil ?_
    refine thenP_n ?_
    refine SP_cond_t rfl ?_
    refine SP_region ?_
    refine SPL_y (y_move rfl) rfl ?_
    refine SPL_y (y_assign rfl) rfl ?_
    refine SPL_nil ?_
    refine thenP_n ?_
    refine SP_region ?_
    refine SPL_y (y_move rfl) rfl ?_
    refine SPL_y (y_assign rfl) rfl ?_
    refine SPL_nil ?_
    refine inBlockP_n ?_
    refine thenP_n ?_
    refine SP_region ?_
    refine SPL_y (y_addE rfl rfl (c := ((i + 1 : Nat) : Int)) (by omega) (by omega)) rfl ?_
    refine SPL_y (y_move rfl) rfl ?_
    refine SPL_nil ?_
    refine thenP_n ?_
    exact Again.intro ((i + 1, p5, p5, ns5, s5)) (⟨hs5, hin, hP⟩) (by dsimp only; omega) (by repeat (first | exact Sub.nil _ | refine Sub.cons rfl ?_)) (by repeat (first | exact Part.nil _ | (apply Part.cons; (first | exact P0 | exact P1 | exact P2 | exact P3 | exact P4 | exact P5 | exact P6 | exact P7 | exact P8 | exact P9 | exact P10 | exact P11 | exact P12 | exact P13 | exact P14 | exact P15 | exact P16 | exact P17 | exact P18 | exact P19 | exact P20 | exact P21 | exact P22 | exact P23)) | (apply Part.flat; simp only [List.cons_append, List.nil_append]) | (apply Part.nilc)))
  intro h6_1
  first | rw [if_neg h6_1] at hP | rw [if_pos (Decidable.not_not.1 h6_1)] at hP | skip
  refine SPL_nil ?_
  refine thenP_n ?_
  refine SP_cond_f rfl ?_
  have hlb : 0 ≤ last ∧ last.toNat < ns5.length := Decidable.byContradiction fun q => by rw [dif_neg q] at hP; cases hP
  rw [dif_pos hlb] at hP
  obtain ⟨la, rfl⟩ : ∃ la : Nat, last = la := ⟨last.toNat, by omega⟩
  have hla : la < ns5.length := by simpa using hlb.2
  simp only [Int.toNat_natCast] at hP
  obtain ⟨na, nc, sN, hA5, rfl⟩ := hs5
  refine SP_openAt [blk y.b 106 [y.nv, y.tk, .slice na ns5.length nc], sN] (by first | exact P0 | exact P1 | exact P2 | exact P3 | exact P4 | exact P5 | exact P6 | exact P7 | exact P8 | exact P9 | exact P10 | exact P11 | exact P12 | exact P13 | exact P14 | exact P15 | exact P16 | exact P17 | exact P18 | exact P19 | exact P20 | exact P21 | exact P22 | exact P23) ?_
  simp only [List.cons_append, List.nil_append]
  obtain ⟨nbk, nsp, rfl, hmc, hnsp, rfl⟩ := hA5.row (by omega)
  have hA6 : Arr 158 8 (some ⟨nbk, 0, none⟩) (ns5.set la { ns5[la] with next := p5 }).length nc ((ns5.set la { ns5[la] with next := p5 }).flatMap ndV) (blk nbk 158 ((ns5.set la { ns5[la] with next := p5 }).flatMap ndV ++ nsp)) := Arr.mk (flat_len ndV_len _) (by simpa using hmc) (by simpa using hnsp)
  refine SP_region ?_
  refine SPL_y (y_move rfl) rfl ?_
  refine SPL_y (y_nil rfl) rfl ?_
  refine SPL_y (y_fa fld_106_2 rfl) rfl ?_
  refine SPL_y (y_load Tryz.isAgg65 rfl (by repeat (first | exact Cell.amid hpre rfl | exact Cell.head rfl | apply Cell.tail))) rfl ?_
  refine SPL_y (y_move rfl) rfl ?_
  refine SPL_y (y_move rfl) rfl ?_
  refine SPL_y (y_ia Tryz.underlying65 Tryz.sizeOf158 rfl rfl (by omega)) rfl ?_
  refine SPL_y (y_fa fld_158_4 rfl) rfl ?_
  refine SPL_one rfl (SP1_storeF (x := { ns5[la] with next := p5 }) ndV_len Tryz.sizeOf3 rfl rfl rfl rfl hla (by decide) rfl (by first | exact U0 | exact U1 | exact U2 | exact U3 | exact U4 | exact U5 | exact U6 | exact U7 | exact U8 | exact U9 | exact U10 | exact U11 | exact U12 | exact U13 | exact U14 | exact U15 | exact U16 | exact U17 | exact U18 | exact U19 | exact U20 | exact U21 | exact U22 | exact U23) ?_)
  refine SPL_nil ?_
  refine thenP_n ?_
  refine SP_region ?_
  refine SPL_y (y_move rfl) rfl ?_
  refine SPL_y (y_assign rfl) rfl ?_
  refine SPL_nil ?_
  refine inBlockP_n ?_
  refine thenP_n ?_
  refine SP_region ?_
  refine SPL_y (y_addE rfl rfl (c := ((i + 1 : Nat) : Int)) (by omega) (by omega)) rfl ?_
  refine SPL_y (y_move rfl) rfl ?_
  refine SPL_nil ?_
  refine thenP_n ?_
  exact Again.intro ((i + 1, first, p5, ns5.set la { ns5[la] with next := p5 }, List.flatten [blk y.b 106 [y.nv, y.tk, .slice (some ⟨nbk, 0, none⟩) ns5.length nc], blk nbk 158 ((ns5.set la { ns5[la] with next := p5 }).flatMap ndV ++ nsp)])) (⟨⟨_, _, _, hA6, by simp⟩, hin, hP⟩) (by dsimp only; omega) (by repeat (first | exact Sub.nil _ | refine Sub.cons rfl ?_)) (by repeat (first | exact Part.nil _ | (apply Part.cons; (first | exact P0 | exact P1 | exact P2 | exact P3 | exact P4 | exact P5 | exact P6 | exact P7 | exact P8 | exact P9 | exact P10 | exact P11 | exact P12 | exact P13 | exact P14 | exact P15 | exact P16 | exact P17 | exact P18 | exact P19 | exact P20 | exact P21 | exact P22 | exact P23)) | (apply Part.flat; simp only [List.cons_append, List.nil_append]) | (apply Part.nilc)))

theorem recF_ok (y : SX) : ∀ n, RecFOk y (recF n)
  | 0 => ⟨fun _ _ h => (by cases h), fun _ _ h => (by cases h)⟩
  | n + 1 => ⟨fun h1 h2 h => fl_expr y _ (recF_ok y n) h1 h2 h, fun h1 h2 h => fl_chain y _ (recF_ok y n) h1 h2 h⟩
end Go.Sl
