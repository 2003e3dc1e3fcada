/- Walks: package run, Call (made by program out of short notes) -/
import Derived.Test.Qxb6500572aGreatDoorWCallA
import Derived.Test.Qxb6500572aGreatDoorPCall
namespace Go.Sl
open Go Go.Wl Go.Proofs
set_option maxRecDepth 100000
set_option linter.unusedVariables false
set_option linter.unusedSimpArgs false
theorem run_out32 (n : Int) (hy : (⟨false, n⟩ : W).ok) : Spec Tryz.prog 90 [(⟨false, n⟩ : W).v] [] (Ret fun v H => v = .agg (valV (⟨false, n⟩ : W).val).toArray ∧ H = []) := by
  have hrg := W.ok_rng hy
  dsimp only at hrg
  refine Spec_enter Tryz.func90 rfl Tryz.ntmps90 rfl ?_
  show SP _ _ _ _ _ [(0, _)] _
  refine SP_seq ?_
  refine SP_region ?_
  refine SPL_one rfl (SP1_alloc Tryz.zeroValue110 rfl rfl ?_)
  intro b2
  refine SPL_nil ?_
  refine thenP_n ?_
  refine SP_seq ?_
  refine SP_seq ?_
  refine SP_region ?_
  refine SPL_y (y_move rfl) rfl ?_
  refine SPL_nil ?_
  refine thenP_n ?_
  refine SP_block ?_
  refine SP_seq ?_
  refine SP_region ?_
  refine SPL_y (y_assertOk Tryz.underlying252 rfl rfl) rfl ?_
  refine SPL_y (y_ext rfl rfl) rfl ?_
  refine SPL_y (y_ext rfl rfl) rfl ?_
  refine SPL_nil ?_
  refine thenP_n ?_
  refine SP_cond_t rfl ?_
  refine SP_seq ?_
  refine SP_region ?_
  refine SPL_y (y_assign rfl) rfl ?_
  refine SPL_nil ?_
  refine thenP_n ?_
  refine SP_seq ?_
  refine SP_region ?_
  refine SPL_y (y_move rfl) rfl ?_
  refine SPL_y (y_conv Tryz.underlying252 Tryz.underlying3 rfl (wrap_i64 (x := n) (by omega) (by omega))) rfl ?_
  refine SPL_y (y_build B110 rfl rfl (by simp only [fillL, List.foldl_cons, List.foldl_nil, List.set_cons_zero, List.set_cons_succ]; exact rfl)) rfl ?_
  refine SPL_one rfl (SP1_storeAll Tryz.sizeOf110 rfl rfl rfl rfl rfl (by first | exact U0 | exact U1 | exact U2 | exact U3 | exact U4 | exact U5 | exact U6 | exact U7 | exact U8 | exact U9 | exact U10 | exact U11 | exact U12 | exact U13 | exact U14 | exact U15 | exact U16 | exact U17 | exact U18 | exact U19 | exact U20 | exact U21 | exact U22 | exact U23) (by rfl) ?_)
  refine SPL_nil ?_
  refine thenP_n ?_
  refine SP_ret ?_
  refine inBlockP_ret (thenP_ret (bodyP_ret (H' := []) (ResC rfl rfl Tryz.isAgg110 Tryz.sizeOf110 rfl (by repeat (first | exact Cells.all _ | exact Cells.head rfl | apply Cells.tail))) (by repeat (first | exact Part.nil _ | (apply Part.cons; (first | exact P0 | exact P1 | exact P2 | exact P3 | exact P4 | exact P5 | exact P6 | exact P7 | exact P8 | exact P9 | exact P10 | exact P11 | exact P12 | exact P13 | exact P14 | exact P15 | exact P16 | exact P17 | exact P18 | exact P19 | exact P20 | exact P21 | exact P22 | exact P23)) | (apply Part.flat; simp only [List.cons_append, List.nil_append]) | (apply Part.nilc))) ?_))
  exact ⟨rfl, rfl⟩

theorem run_out64 (n : Int) (hy : (⟨true, n⟩ : W).ok) : Spec Tryz.prog 90 [(⟨true, n⟩ : W).v] [] (Ret fun v H => v = .agg (valV (⟨true, n⟩ : W).val).toArray ∧ H = []) := by
  have hrg := W.ok_rng hy
  dsimp only at hrg
  refine Spec_enter Tryz.func90 rfl Tryz.ntmps90 rfl ?_
  show SP _ _ _ _ _ [(0, _)] _
  refine SP_seq ?_
  refine SP_region ?_
  refine SPL_one rfl (SP1_alloc Tryz.zeroValue110 rfl rfl ?_)
  intro b2
  refine SPL_nil ?_
  refine thenP_n ?_
  refine SP_seq ?_
  refine SP_seq ?_
  refine SP_region ?_
  refine SPL_y (y_move rfl) rfl ?_
  refine SPL_nil ?_
  refine thenP_n ?_
  refine SP_block ?_
  refine SP_seq ?_
  refine SP_region ?_
  refine SPL_y (y_assertNo Tryz.underlying252 rfl Tryz.zeroValue252 rfl rfl) rfl ?_
  refine SPL_y (y_ext rfl rfl) rfl ?_
  refine SPL_y (y_ext rfl rfl) rfl ?_
  refine SPL_nil ?_
  refine thenP_n ?_
  refine SP_cond_f rfl ?_
  refine SP_seq ?_
  refine SP_region ?_
  refine SPL_y (y_assertOk Tryz.underlying253 rfl rfl) rfl ?_
  refine SPL_y (y_ext rfl rfl) rfl ?_
  refine SPL_y (y_ext rfl rfl) rfl ?_
  refine SPL_nil ?_
  refine thenP_n ?_
  refine SP_cond_t rfl ?_
  refine SP_seq ?_
  refine SP_region ?_
  refine SPL_y (y_assign rfl) rfl ?_
  refine SPL_nil ?_
  refine thenP_n ?_
  refine SP_seq ?_
  refine SP_region ?_
  refine SPL_y (y_move rfl) rfl ?_
  refine SPL_y (y_build B110 rfl rfl (by simp only [fillL, List.foldl_cons, List.foldl_nil, List.set_cons_zero, List.set_cons_succ]; exact rfl)) rfl ?_
  refine SPL_one rfl (SP1_storeAll Tryz.sizeOf110 rfl rfl rfl rfl rfl (by first | exact U0 | exact U1 | exact U2 | exact U3 | exact U4 | exact U5 | exact U6 | exact U7 | exact U8 | exact U9 | exact U10 | exact U11 | exact U12 | exact U13 | exact U14 | exact U15 | exact U16 | exact U17 | exact U18 | exact U19 | exact U20 | exact U21 | exact U22 | exact U23) (by rfl) ?_)
  refine SPL_nil ?_
  refine thenP_n ?_
  refine SP_ret ?_
  refine inBlockP_ret (thenP_ret (bodyP_ret (H' := []) (ResC rfl rfl Tryz.isAgg110 Tryz.sizeOf110 rfl (by repeat (first | exact Cells.all _ | exact Cells.head rfl | apply Cells.tail))) (by repeat (first | exact Part.nil _ | (apply Part.cons; (first | exact P0 | exact P1 | exact P2 | exact P3 | exact P4 | exact P5 | exact P6 | exact P7 | exact P8 | exact P9 | exact P10 | exact P11 | exact P12 | exact P13 | exact P14 | exact P15 | exact P16 | exact P17 | exact P18 | exact P19 | exact P20 | exact P21 | exact P22 | exact P23)) | (apply Part.flat; simp only [List.cons_append, List.nil_append]) | (apply Part.nilc))) ?_))
  exact ⟨rfl, rfl⟩

theorem run_out (y : W) (hy : y.ok) : Spec Tryz.prog 90 [y.v] [] (Ret fun v H => v = .agg (valV y.val).toArray ∧ H = []) := by
  obtain ⟨w, n⟩ := y
  cases w with
  | false => exact run_out32 n hy
  | true => exact run_out64 n hy
theorem out_put {st : List W} {j : Nat} (h : j < st.length) :
    let l := ((st.take j).map W.val).flatMap valV ++ (List.replicate (st.length - j) zval).flatten
    l.take (0 + ((j : Nat) : Int).toNat * 2) ++ valV st[j].val ++ l.drop (0 + ((j : Nat) : Int).toNat * 2 + (valV st[j].val).length) = ((st.take (j + 1)).map W.val).flatMap valV ++ (List.replicate (st.length - (j + 1)) zval).flatten := by
  intro l
  have hl : 0 + ((j : Nat) : Int).toNat * 2 = (((st.take j).map W.val).flatMap valV).length := by rw [flat_len valV_len, List.length_map, List.length_take, Nat.min_eq_left (by omega)]; omega
  have e : l = ((st.take j).map W.val).flatMap valV ++ (zval ++ (List.replicate (st.length - (j + 1)) zval).flatten) := by
    show _ ++ (List.replicate (st.length - j) zval).flatten = _
    rw [show st.length - j = (st.length - (j + 1)) + 1 by omega, List.replicate_succ, List.flatten_cons]
  rw [e, hl, List.take_left, ← List.drop_drop, List.drop_left, List.take_succ_eq_append_getElem h, List.map_append, List.flatMap_append]
  simp [valV, zval]

theorem run_Call (x pb kb hb : Nat) (pfa : Option Addr) (fuel : Int) (hfuel : fuel ≤ 9223372036854775807) (Good : VM → Prop) (mu : VM → Nat) (hG : ∀ m, Good m → Pre m) (hS : ∀ m m', Good m → m.step fuel = (m', none) → Good m' ∧ mu m' < mu m) (P : Prog) (steps : Int) (mem : Mem) (host : Host) (f : Int) (args : List Val) (va : Option Addr) (vc : Nat) (sargs : Seg) (hargs : Arr 110 2 va args.length vc (args.flatMap valV) sargs) (h0 : Int) (sp sk sh : Seg) (hp : isProg pb pfa P steps sp) (hk : isMach kb mem sk) (hh : isHost hb host sh) (hps : ∀ t, t ∈ (P.sig f).1 → t = 105 ∨ t = 108) (hlen : (P.sig f).2.2.1.length ≤ 100) (hal : args.length ≤ 100) (hg : owed P f args = 0 → Good (startVM P steps mem host f args)) : Spec Tryz.prog 59 [.pointer (some ⟨x, 0, none⟩), I f, .slice va args.length vc, I fuel, hostV hb host] [blk x 93 [(.pointer (some ⟨pb, 0, none⟩)), (.pointer (some ⟨kb, 0, none⟩)), .slice none 0 0, .slice none 0 0, I 0, I (h0)], sp, sk, sh, sargs] (Ret fun v H => (owed P f args ≠ 0 → v = .tuple #[.slice none 0 0, I 0, .iface 51 (I (owed P f args))] ∧ H = [blk x 93 [(.pointer (some ⟨pb, 0, none⟩)), (.pointer (some ⟨kb, 0, none⟩)), .slice none 0 0, .slice none 0 0, I 0, I (0)], sp, sk, sh, sargs]) ∧ (owed P f args = 0 → (∃ m m' rb sp' sk' sh', Good m ∧ m.step fuel = (m', some 0) ∧ v = .tuple #[.slice (some ⟨rb, 0, none⟩) m'.i.st.length m'.i.st.length, I m'.i.used, .nilIface] ∧ H = [blk x 93 [(.pointer (some ⟨pb, 0, none⟩)), (.pointer (some ⟨kb, 0, none⟩)), .slice none 0 0, .slice none 0 0, I 0, I (m'.i.high)], sp', sk', sh', sargs, blk rb 110 ((m'.i.st.map W.val).flatMap valV)] ∧ isProg pb pfa m'.P m'.steps sp' ∧ isMach kb m'.mem sk' ∧ isHost hb m'.host sh') ∨ (∃ m m' e sp' sk' sh', Good m ∧ m.step fuel = (m', some e) ∧ e ≠ 0 ∧ v = .tuple #[.slice none 0 0, I m'.i.used, .iface 51 (I e)] ∧ H = [blk x 93 [(.pointer (some ⟨pb, 0, none⟩)), (.pointer (some ⟨kb, 0, none⟩)), .slice none 0 0, .slice none 0 0, I 0, I (m'.i.high)], sp', sk', sh', sargs] ∧ isProg pb pfa m'.P m'.steps sp' ∧ isMach kb m'.mem sk' ∧ isHost hb m'.host sh'))) := by
  obtain ⟨⟨ps, rs, ls, okb⟩, hsig⟩ : ∃ z, P.sig f = z := ⟨_, rfl⟩
  rw [hsig] at hps hlen
  dsimp only at hps hlen
  refine Spec_enterD Tryz.func59 rfl Tryz.ntmps59 rfl ?_
  show SP _ _ _ _ _ [(0, _), (1, _), (2, _), (3, _), (4, _)] _
  refine SP_seq ?_
  refine SP_region ?_
  refine SPL_one rfl (SP1_box rfl rfl rfl ?_)
  intro b5
  refine SPL_one rfl (SP1_alloc Tryz.zeroValue35 rfl rfl ?_)
  intro b10
  refine SPL_one rfl (SP1_alloc Tryz.zeroValue3 rfl rfl ?_)
  intro b11
  refine SPL_one rfl (SP1_alloc Tryz.zeroValue39 rfl rfl ?_)
  intro b12
  refine SPL_nil ?_
  refine thenP_n ?_
  refine SP_seq ?_
  refine SP_region ?_
  refine SPL_y (y_load Tryz.isAgg47 rfl (by repeat (first | exact Cell.head rfl | apply Cell.tail))) rfl ?_
  refine SPL_y (y_nil rfl) rfl ?_
  refine SPL_y (y_fa fld_93_5 rfl) rfl ?_
  refine SPL_one rfl (SP1_store Tryz.sizeOf3 rfl rfl rfl (by first | exact U0 | exact U1 | exact U2 | exact U3 | exact U4 | exact U5 | exact U6 | exact U7 | exact U8 | exact U9 | exact U10 | exact U11 | exact U12 | exact U13 | exact U14 | exact U15 | exact U16 | exact U17 | exact U18 | exact U19 | exact U20 | exact U21 | exact U22 | exact U23) (by rfl) ?_)
  refine SPL_nil ?_
  refine thenP_n ?_
  refine SP_seq ?_
  refine SP_seq ?_
  refine SP_region ?_
  refine SPL_y (y_move rfl) rfl ?_
  refine SPL_y (y_len_l Tryz.underlying35 rfl) rfl ?_
  refine SPL_if (y_gtr rfl rfl) rfl ?_ ?_
  · intro h2_2
    refine SPL_nil ?_
    refine thenP_n ?_
    refine SP_cond_t rfl ?_
    refine SP_seq ?_
    refine SP_region ?_
    refine SPL_y (y_mki Tryz.underlying51 rfl rfl) rfl ?_
    refine SPL_one rfl (SP1_store Tryz.sizeOf35 rfl rfl rfl (by first | exact U0 | exact U1 | exact U2 | exact U3 | exact U4 | exact U5 | exact U6 | exact U7 | exact U8 | exact U9 | exact U10 | exact U11 | exact U12 | exact U13 | exact U14 | exact U15 | exact U16 | exact U17 | exact U18 | exact U19 | exact U20 | exact U21 | exact U22 | exact U23) (by rfl) ?_)
    refine SPL_one rfl (SP1_store Tryz.sizeOf3 rfl rfl rfl (by first | exact U0 | exact U1 | exact U2 | exact U3 | exact U4 | exact U5 | exact U6 | exact U7 | exact U8 | exact U9 | exact U10 | exact U11 | exact U12 | exact U13 | exact U14 | exact U15 | exact U16 | exact U17 | exact U18 | exact U19 | exact U20 | exact U21 | exact U22 | exact U23) (by rfl) ?_)
    refine SPL_one rfl (SP1_store Tryz.sizeOf39 rfl rfl rfl (by first | exact U0 | exact U1 | exact U2 | exact U3 | exact U4 | exact U5 | exact U6 | exact U7 | exact U8 | exact U9 | exact U10 | exact U11 | exact U12 | exact U13 | exact U14 | exact U15 | exact U16 | exact U17 | exact U18 | exact U19 | exact U20 | exact U21 | exact U22 | exact U23) (by rfl) ?_)
    refine SPL_nil ?_
    refine thenP_n ?_
    refine SP_ret ?_
    refine thenP_ret (bodyPD_ret (H' := [blk x 93 [(.pointer (some ⟨pb, 0, none⟩)), (.pointer (some ⟨kb, 0, none⟩)), .slice none 0 0, .slice none 0 0, I 0, I (0)], sp, sk, sh, sargs]) (Res3C rfl rfl rfl rfl Tryz.isAgg35 Tryz.isAgg3 Tryz.isAgg39 (by repeat (first | exact Cell.head rfl | apply Cell.tail)) (by repeat (first | exact Cell.head rfl | apply Cell.tail)) (by repeat (first | exact Cell.head rfl | apply Cell.tail))) (by repeat (first | exact Part.nil _ | (apply Part.cons; (first | exact P0 | exact P1 | exact P2 | exact P3 | exact P4 | exact P5 | exact P6 | exact P7 | exact P8 | exact P9 | exact P10 | exact P11 | exact P12 | exact P13 | exact P14 | exact P15 | exact P16 | exact P17 | exact P18 | exact P19 | exact P20 | exact P21 | exact P22 | exact P23)) | (apply Part.flat; simp only [List.cons_append, List.nil_append]) | (apply Part.nilc))) ?_)
    have ho : owed P f args = 1 := by unfold owed; rw [if_pos (by omega)]
    refine ⟨fun _ => ?_, fun h => absurd h (by rw [ho]; decide)⟩
    rw [ho]
    exact ⟨rfl, rfl⟩
  intro h2_2
  refine SPL_nil ?_
  refine thenP_n ?_
  refine SP_cond_f rfl ?_
  refine SP_skip ?_
  refine thenP_n ?_
  refine SP_seq ?_
  refine SP_region ?_
  refine SPL_y (y_load Tryz.isAgg47 rfl (by repeat (first | exact Cell.head rfl | apply Cell.tail))) rfl ?_
  refine SPL_y (y_nil rfl) rfl ?_
  refine SPL_y (y_fa fld_93_0 rfl) rfl ?_
  refine SPL_y (y_load Tryz.isAgg45 rfl (by repeat (first | exact Cell.head rfl | apply Cell.tail))) rfl ?_
  refine SPL_y (y_move rfl) rfl ?_
  refine SPL_one rfl (SP1_call ((show Spec Tryz.prog 18 _ _ (Ret fun v H => v = .tuple #[S ps, S rs, S ls, .bool okb] ∧ H = [sp]) from by have := prep_Sig pb pfa P steps sp f hp; rw [hsig] at this; exact this)) Tryz.call18 rfl rfl (by repeat (first | exact Part.nil _ | (apply Part.cons; (first | exact P0 | exact P1 | exact P2 | exact P3 | exact P4 | exact P5 | exact P6 | exact P7 | exact P8 | exact P9 | exact P10 | exact P11 | exact P12 | exact P13 | exact P14 | exact P15 | exact P16 | exact P17 | exact P18 | exact P19 | exact P20 | exact P21 | exact P22 | exact P23)) | (apply Part.flat; simp only [List.cons_append, List.nil_append]) | (apply Part.nilc))) ?_)
  rintro v post H' ⟨rfl, rfl⟩ hH
  try simp only [List.cons_append, List.nil_append] at hH
  subst hH
  refine SPL_y (y_move rfl) rfl ?_
  refine SPL_y (y_ext rfl rfl) rfl ?_
  refine SPL_y (y_ext rfl rfl) rfl ?_
  refine SPL_y (y_ext rfl rfl) rfl ?_
  refine SPL_y (y_ext rfl rfl) rfl ?_
  rcases okb with _ | _
  · refine SPL_y (y_assign rfl) rfl ?_
    refine SPL_y (y_assign rfl) rfl ?_
    refine SPL_y (y_assign rfl) rfl ?_
    refine SPL_y (y_assign rfl) rfl ?_
    refine SPL_nil ?_
    refine thenP_n ?_
    refine SP_seq ?_
    refine SP_seq ?_
    refine SP_region ?_
    refine SPL_y (y_move rfl) rfl ?_
    refine SPL_y (y_not_f rfl) rfl ?_
    refine SPL_y (y_move rfl) rfl ?_
    refine SPL_gn rfl rfl rfl rfl ?_
    refine SPL_gn rfl rfl rfl rfl ?_
    refine SPL_gn rfl rfl rfl rfl ?_
    refine SPL_gn rfl rfl rfl rfl ?_
    refine SPL_gn rfl rfl rfl rfl ?_
    refine SPL_gn rfl rfl rfl rfl ?_
    refine SPL_gn rfl rfl rfl rfl ?_
    refine SPL_y (y_pick_t rfl rfl) rfl ?_
    refine SPL_nil ?_
    refine thenP_n ?_
    refine SP_cond_t rfl ?_
    refine SP_seq ?_
    refine SP_region ?_
    refine SPL_y (y_mki Tryz.underlying51 rfl rfl) rfl ?_
    refine SPL_one rfl (SP1_store Tryz.sizeOf35 rfl rfl rfl (by first | exact U0 | exact U1 | exact U2 | exact U3 | exact U4 | exact U5 | exact U6 | exact U7 | exact U8 | exact U9 | exact U10 | exact U11 | exact U12 | exact U13 | exact U14 | exact U15 | exact U16 | exact U17 | exact U18 | exact U19 | exact U20 | exact U21 | exact U22 | exact U23) (by rfl) ?_)
    refine SPL_one rfl (SP1_store Tryz.sizeOf3 rfl rfl rfl (by first | exact U0 | exact U1 | exact U2 | exact U3 | exact U4 | exact U5 | exact U6 | exact U7 | exact U8 | exact U9 | exact U10 | exact U11 | exact U12 | exact U13 | exact U14 | exact U15 | exact U16 | exact U17 | exact U18 | exact U19 | exact U20 | exact U21 | exact U22 | exact U23) (by rfl) ?_)
    refine SPL_one rfl (SP1_store Tryz.sizeOf39 rfl rfl rfl (by first | exact U0 | exact U1 | exact U2 | exact U3 | exact U4 | exact U5 | exact U6 | exact U7 | exact U8 | exact U9 | exact U10 | exact U11 | exact U12 | exact U13 | exact U14 | exact U15 | exact U16 | exact U17 | exact U18 | exact U19 | exact U20 | exact U21 | exact U22 | exact U23) (by rfl) ?_)
    refine SPL_nil ?_
    refine thenP_n ?_
    refine SP_ret ?_
    refine thenP_ret (bodyPD_ret (H' := [blk x 93 [(.pointer (some ⟨pb, 0, none⟩)), (.pointer (some ⟨kb, 0, none⟩)), .slice none 0 0, .slice none 0 0, I 0, I (0)], sp, sk, sh, sargs]) (Res3C rfl rfl rfl rfl Tryz.isAgg35 Tryz.isAgg3 Tryz.isAgg39 (by repeat (first | exact Cell.head rfl | apply Cell.tail)) (by repeat (first | exact Cell.head rfl | apply Cell.tail)) (by repeat (first | exact Cell.head rfl | apply Cell.tail))) (by repeat (first | exact Part.nil _ | (apply Part.cons; (first | exact P0 | exact P1 | exact P2 | exact P3 | exact P4 | exact P5 | exact P6 | exact P7 | exact P8 | exact P9 | exact P10 | exact P11 | exact P12 | exact P13 | exact P14 | exact P15 | exact P16 | exact P17 | exact P18 | exact P19 | exact P20 | exact P21 | exact P22 | exact P23)) | (apply Part.flat; simp only [List.cons_append, List.nil_append]) | (apply Part.nilc))) ?_)
    have ho : owed P f args = 8 := by unfold owed; rw [hsig, if_neg (by omega), if_pos (by simp)]
    refine ⟨fun _ => ?_, fun h => absurd h (by rw [ho]; decide)⟩
    rw [ho]
    exact ⟨rfl, rfl⟩
  · refine SPL_y (y_assign rfl) rfl ?_
    refine SPL_y (y_assign rfl) rfl ?_
    refine SPL_y (y_assign rfl) rfl ?_
    refine SPL_y (y_assign rfl) rfl ?_
    refine SPL_nil ?_
    refine thenP_n ?_
    refine SP_seq ?_
    refine SP_seq ?_
    refine SP_region ?_
    refine SPL_y (y_move rfl) rfl ?_
    refine SPL_y (y_not_t rfl) rfl ?_
    refine SPL_y (y_move rfl) rfl ?_
    refine SPL_gy rfl rfl ?_
    refine SPL_y (y_move rfl) rfl ?_
    refine SPL_gy rfl rfl ?_
    refine SPL_y (y_load Tryz.isAgg47 rfl (by repeat (first | exact Cell.head rfl | apply Cell.tail))) rfl ?_
    refine SPL_gy rfl rfl ?_
    refine SPL_y (y_nil rfl) rfl ?_
    refine SPL_gy rfl rfl ?_
    refine SPL_y (y_fa fld_93_0 rfl) rfl ?_
    refine SPL_gy rfl rfl ?_
    refine SPL_y (y_load Tryz.isAgg45 rfl (by repeat (first | exact Cell.head rfl | apply Cell.tail))) rfl ?_
    refine SPL_gy rfl rfl ?_
    refine SPL_one rfl (SP1_call (prep_NImports pb pfa P steps sp hp) Tryz.call19 rfl rfl (by repeat (first | exact Part.nil _ | (apply Part.cons; (first | exact P0 | exact P1 | exact P2 | exact P3 | exact P4 | exact P5 | exact P6 | exact P7 | exact P8 | exact P9 | exact P10 | exact P11 | exact P12 | exact P13 | exact P14 | exact P15 | exact P16 | exact P17 | exact P18 | exact P19 | exact P20 | exact P21 | exact P22 | exact P23)) | (apply Part.flat; simp only [List.cons_append, List.nil_append]) | (apply Part.nilc))) ?_)
    rintro v post H' ⟨rfl, rfl⟩ hH
    try simp only [List.cons_append, List.nil_append] at hH
    subst hH
    refine SPL_gy rfl rfl ?_
    refine SPL_if (y_lss rfl rfl) rfl ?_ ?_
    · intro h5_9
      refine SPL_y (y_pick_f rfl rfl) rfl ?_
      refine SPL_nil ?_
      refine thenP_n ?_
      refine SP_cond_t rfl ?_
      refine SP_seq ?_
      refine SP_region ?_
      refine SPL_y (y_mki Tryz.underlying51 rfl rfl) rfl ?_
      refine SPL_one rfl (SP1_store Tryz.sizeOf35 rfl rfl rfl (by first | exact U0 | exact U1 | exact U2 | exact U3 | exact U4 | exact U5 | exact U6 | exact U7 | exact U8 | exact U9 | exact U10 | exact U11 | exact U12 | exact U13 | exact U14 | exact U15 | exact U16 | exact U17 | exact U18 | exact U19 | exact U20 | exact U21 | exact U22 | exact U23) (by rfl) ?_)
      refine SPL_one rfl (SP1_store Tryz.sizeOf3 rfl rfl rfl (by first | exact U0 | exact U1 | exact U2 | exact U3 | exact U4 | exact U5 | exact U6 | exact U7 | exact U8 | exact U9 | exact U10 | exact U11 | exact U12 | exact U13 | exact U14 | exact U15 | exact U16 | exact U17 | exact U18 | exact U19 | exact U20 | exact U21 | exact U22 | exact U23) (by rfl) ?_)
      refine SPL_one rfl (SP1_store Tryz.sizeOf39 rfl rfl rfl (by first | exact U0 | exact U1 | exact U2 | exact U3 | exact U4 | exact U5 | exact U6 | exact U7 | exact U8 | exact U9 | exact U10 | exact U11 | exact U12 | exact U13 | exact U14 | exact U15 | exact U16 | exact U17 | exact U18 | exact U19 | exact U20 | exact U21 | exact U22 | exact U23) (by rfl) ?_)
      refine SPL_nil ?_
      refine thenP_n ?_
      refine SP_ret ?_
      refine thenP_ret (bodyPD_ret (H' := [blk x 93 [(.pointer (some ⟨pb, 0, none⟩)), (.pointer (some ⟨kb, 0, none⟩)), .slice none 0 0, .slice none 0 0, I 0, I (0)], sp, sk, sh, sargs]) (Res3C rfl rfl rfl rfl Tryz.isAgg35 Tryz.isAgg3 Tryz.isAgg39 (by repeat (first | exact Cell.head rfl | apply Cell.tail)) (by repeat (first | exact Cell.head rfl | apply Cell.tail)) (by repeat (first | exact Cell.head rfl | apply Cell.tail))) (by repeat (first | exact Part.nil _ | (apply Part.cons; (first | exact P0 | exact P1 | exact P2 | exact P3 | exact P4 | exact P5 | exact P6 | exact P7 | exact P8 | exact P9 | exact P10 | exact P11 | exact P12 | exact P13 | exact P14 | exact P15 | exact P16 | exact P17 | exact P18 | exact P19 | exact P20 | exact P21 | exact P22 | exact P23)) | (apply Part.flat; simp only [List.cons_append, List.nil_append]) | (apply Part.nilc))) ?_)
      have ho : owed P f args = 8 := by unfold owed; rw [hsig, if_neg (by omega), if_pos (by simp; omega)]
      refine ⟨fun _ => ?_, fun h => absurd h (by rw [ho]; decide)⟩
      rw [ho]
      exact ⟨rfl, rfl⟩
    intro h5_9
    refine SPL_y (y_pick_f rfl rfl) rfl ?_
    refine SPL_nil ?_
    refine thenP_n ?_
    refine SP_cond_f rfl ?_
    refine SP_skip ?_
    refine thenP_n ?_
    refine SP_seq ?_
    refine SP_seq ?_
    refine SP_region ?_
    refine SPL_y (y_move rfl) rfl ?_
    refine SPL_y (y_len_l Tryz.underlying35 rfl) rfl ?_
    refine SPL_y (y_move rfl) rfl ?_
    refine SPL_y (y_len_s Tryz.underlying9 rfl) rfl ?_
    refine SPL_if (y_neq rfl rfl) rfl ?_ ?_
    · intro h7_4
      refine SPL_nil ?_
      refine thenP_n ?_
      refine SP_cond_t rfl ?_
      refine SP_seq ?_
      refine SP_region ?_
      refine SPL_y (y_mki Tryz.underlying51 rfl rfl) rfl ?_
      refine SPL_one rfl (SP1_store Tryz.sizeOf35 rfl rfl rfl (by first | exact U0 | exact U1 | exact U2 | exact U3 | exact U4 | exact U5 | exact U6 | exact U7 | exact U8 | exact U9 | exact U10 | exact U11 | exact U12 | exact U13 | exact U14 | exact U15 | exact U16 | exact U17 | exact U18 | exact U19 | exact U20 | exact U21 | exact U22 | exact U23) (by rfl) ?_)
      refine SPL_one rfl (SP1_store Tryz.sizeOf3 rfl rfl rfl (by first | exact U0 | exact U1 | exact U2 | exact U3 | exact U4 | exact U5 | exact U6 | exact U7 | exact U8 | exact U9 | exact U10 | exact U11 | exact U12 | exact U13 | exact U14 | exact U15 | exact U16 | exact U17 | exact U18 | exact U19 | exact U20 | exact U21 | exact U22 | exact U23) (by rfl) ?_)
      refine SPL_one rfl (SP1_store Tryz.sizeOf39 rfl rfl rfl (by first | exact U0 | exact U1 | exact U2 | exact U3 | exact U4 | exact U5 | exact U6 | exact U7 | exact U8 | exact U9 | exact U10 | exact U11 | exact U12 | exact U13 | exact U14 | exact U15 | exact U16 | exact U17 | exact U18 | exact U19 | exact U20 | exact U21 | exact U22 | exact U23) (by rfl) ?_)
      refine SPL_nil ?_
      refine thenP_n ?_
      refine SP_ret ?_
      refine thenP_ret (bodyPD_ret (H' := [blk x 93 [(.pointer (some ⟨pb, 0, none⟩)), (.pointer (some ⟨kb, 0, none⟩)), .slice none 0 0, .slice none 0 0, I 0, I (0)], sp, sk, sh, sargs]) (Res3C rfl rfl rfl rfl Tryz.isAgg35 Tryz.isAgg3 Tryz.isAgg39 (by repeat (first | exact Cell.head rfl | apply Cell.tail)) (by repeat (first | exact Cell.head rfl | apply Cell.tail)) (by repeat (first | exact Cell.head rfl | apply Cell.tail))) (by repeat (first | exact Part.nil _ | (apply Part.cons; (first | exact P0 | exact P1 | exact P2 | exact P3 | exact P4 | exact P5 | exact P6 | exact P7 | exact P8 | exact P9 | exact P10 | exact P11 | exact P12 | exact P13 | exact P14 | exact P15 | exact P16 | exact P17 | exact P18 | exact P19 | exact P20 | exact P21 | exact P22 | exact P23)) | (apply Part.flat; simp only [List.cons_append, List.nil_append]) | (apply Part.nilc))) ?_)
      have ho : owed P f args = 7 := by unfold owed; rw [hsig, if_neg (by omega), if_neg (by simp; omega), if_pos (by simp only; omega)]
      refine ⟨fun _ => ?_, fun h => absurd h (by rw [ho]; decide)⟩
      rw [ho]
      exact ⟨rfl, rfl⟩
    intro h7_4
    refine SPL_nil ?_
    refine thenP_n ?_
    refine SP_cond_f rfl ?_
    refine SP_skip ?_
    refine thenP_n ?_
    refine SP_seq ?_
    refine SP_region ?_
    refine SPL_y (y_mkf rfl rfl) rfl ?_
    refine SPL_one rfl (SP1_defer rfl ?_)
    refine SPL_nil ?_
    refine thenP_n ?_
    refine SP_seq ?_
    refine SP_seq ?_
    have hpl : args.length = ps.length := by omega
    refine SP_region ?_
    refine SPL_y (y_move rfl) rfl ?_
    refine SPL_y (y_len_l Tryz.underlying35 rfl) rfl ?_
    refine SPL_y (y_move rfl) rfl ?_
    refine SPL_nil ?_
    refine thenP_n ?_
    refine SP_block ?_
    refine SP_loop (G := Nat × Option Addr × Nat × Seg) (fun g => args.length - g.1) (fun g => [(1, I f), (3, I fuel), (4, hostV hb host), (5, .pointer (some ⟨b5, 0, none⟩)), (10, .pointer (some ⟨b10, 0, none⟩)), (11, .pointer (some ⟨b11, 0, none⟩)), (12, .pointer (some ⟨b12, 0, none⟩)), (13, S ps), (58, .slice va args.length vc), (59, I args.length), (60, I (g.1 : Nat))]) (fun g => [blk b5 47 [.pointer (some ⟨x, 0, none⟩)], blk b10 35 [.slice none 0 0], blk b11 3 [I 0], blk b12 39 [.nilIface], blk x 93 [(.pointer (some ⟨pb, 0, none⟩)), (.pointer (some ⟨kb, 0, none⟩)), .slice g.2.1 g.1 g.2.2.1, .slice none 0 0, I 0, I 0], g.2.2.2, sp, sk, sh, sargs]) (fun g => g.1 ≤ args.length ∧ Arr 209 1 g.2.1 g.1 g.2.2.1 ((argsW (args.take g.1)).map W.v) g.2.2.2 ∧ ∀ (q : Nat) (h1 : q < args.length) (h2 : q < ps.length), q < g.1 → fits args[q] ps[q] = true) (⟨0, none, 0, []⟩) (⟨Nat.zero_le _, ⟨rfl, .inl ⟨rfl, rfl, rfl, rfl⟩⟩, fun q _ _ h => by simp at h⟩) (by repeat (first | exact Sub.nil _ | refine Sub.cons rfl ?_)) (by repeat (first | exact Part.nil _ | (apply Part.cons; (first | exact P0 | exact P1 | exact P2 | exact P3 | exact P4 | exact P5 | exact P6 | exact P7 | exact P8 | exact P9 | exact P10 | exact P11 | exact P12 | exact P13 | exact P14 | exact P15 | exact P16 | exact P17 | exact P18 | exact P19 | exact P20 | exact P21 | exact P22 | exact P23)) | (apply Part.flat; simp only [List.cons_append, List.nil_append]) | (apply Part.nilc))) ?_
    rintro ⟨j, sa, sc, ss⟩ ⟨hj, hst, hfit⟩
    dsimp only at hj hst hfit ⊢
    refine SP_seq ?_
    refine SP_region ?_
    refine SPL_if (y_lss rfl rfl) rfl ?_ ?_
    · intro h11_0
      refine SPL_nil ?_
      refine thenP_n ?_
      refine SP_seq ?_
      refine SP_cond_t rfl ?_
      refine SP_skip ?_
      refine thenP_n ?_
      refine SP_seq ?_
      refine SP_block ?_
      refine SP_seq ?_
      have hji : j < args.length := by omega
      obtain ⟨ab, asp, rfl, hac, hasp, rfl⟩ := hargs.row (by omega)
      refine SP_region ?_
      refine SPL_y (y_move rfl) rfl ?_
      refine SPL_y (y_ia Tryz.underlying35 Tryz.sizeOf110 rfl rfl (by omega)) rfl ?_
      refine SPL_y (y_loads Tryz.isAgg110 Tryz.sizeOf110 rfl rfl (by repeat (first | exact Cells.elem (j := (j : Int)) valV_len (i := j) (by omega) hji | apply Cells.tail))) rfl ?_
      refine SPL_one rfl (SP1_alloc Tryz.zeroValue110 rfl rfl ?_)
      intro b18
      refine SPL_y (y_assign rfl) rfl ?_
      refine SPL_one rfl (SP1_storeAll Tryz.sizeOf110 rfl rfl rfl rfl rfl (by first | exact U0 | exact U1 | exact U2 | exact U3 | exact U4 | exact U5 | exact U6 | exact U7 | exact U8 | exact U9 | exact U10 | exact U11 | exact U12 | exact U13 | exact U14 | exact U15 | exact U16 | exact U17 | exact U18 | exact U19 | exact U20 | exact U21 | exact U22 | exact U23) (by rfl) ?_)
      refine SPL_nil ?_
      refine thenP_n ?_
      refine SP_seq ?_
      refine SP_seq ?_
      refine SP_noPanic ?_
      refine SP_draw 4 [(1, 0), (2, 0), (3, 0), (0, 1), (4, 3), (5, 0)] mixed (by kernel_rfl) (fun _ _ _ _ _ h => h) (Part.refl _) ?_
      refine SPO_p rfl (y_move rfl) rfl ?_
      refine SPO_p rfl (y_move rfl) rfl ?_
      refine SPO_p rfl (y_idx_s Tryz.underlying9 rfl rfl (by omega) (getN (by omega))) rfl ?_
      refine SPO_h rfl (y_loads Tryz.isAgg110 Tryz.sizeOf110 rfl rfl (by repeat (first | exact Cells.all _ | exact Cells.head rfl | apply Cells.tail))) rfl ?_
      refine SPO_z (k := 0) rfl rfl (SP1_call (run_fits args[j] ps[j]) Tryz.call86 rfl rfl (by repeat (first | exact Part.nil _ | (apply Part.cons; (first | exact P0 | exact P1 | exact P2 | exact P3 | exact P4 | exact P5 | exact P6 | exact P7 | exact P8 | exact P9 | exact P10 | exact P11 | exact P12 | exact P13 | exact P14 | exact P15 | exact P16 | exact P17 | exact P18 | exact P19 | exact P20 | exact P21 | exact P22 | exact P23)) | (apply Part.flat; simp only [List.cons_append, List.nil_append]) | (apply Part.nilc))) ?_)
      rintro v post H' ⟨rfl, rfl⟩ hH
      try simp only [List.cons_append, List.nil_append] at hH
      subst hH
      refine SPO_p rfl (y_not rfl) rfl ?_
      refine SPO_nil ?_
      refine noPanicP_n ?_
      refine thenP_n ?_
      refine SP_cond_b rfl ?_ ?_
      · intro hc70
        refine SP_seq ?_
        refine SP_region ?_
        refine SPL_y (y_mki Tryz.underlying51 rfl rfl) rfl ?_
        refine SPL_one rfl (SP1_store Tryz.sizeOf35 rfl rfl rfl (by first | exact U0 | exact U1 | exact U2 | exact U3 | exact U4 | exact U5 | exact U6 | exact U7 | exact U8 | exact U9 | exact U10 | exact U11 | exact U12 | exact U13 | exact U14 | exact U15 | exact U16 | exact U17 | exact U18 | exact U19 | exact U20 | exact U21 | exact U22 | exact U23) (by rfl) ?_)
        refine SPL_one rfl (SP1_store Tryz.sizeOf3 rfl rfl rfl (by first | exact U0 | exact U1 | exact U2 | exact U3 | exact U4 | exact U5 | exact U6 | exact U7 | exact U8 | exact U9 | exact U10 | exact U11 | exact U12 | exact U13 | exact U14 | exact U15 | exact U16 | exact U17 | exact U18 | exact U19 | exact U20 | exact U21 | exact U22 | exact U23) (by rfl) ?_)
        refine SPL_one rfl (SP1_store Tryz.sizeOf39 rfl rfl rfl (by first | exact U0 | exact U1 | exact U2 | exact U3 | exact U4 | exact U5 | exact U6 | exact U7 | exact U8 | exact U9 | exact U10 | exact U11 | exact U12 | exact U13 | exact U14 | exact U15 | exact U16 | exact U17 | exact U18 | exact U19 | exact U20 | exact U21 | exact U22 | exact U23) (by rfl) ?_)
        refine SPL_nil ?_
        refine thenP_n ?_
        refine SP_ret ?_
        refine thenP_ret (inBlockP_ret (thenP_ret (thenP_ret (inBlockP_ret (thenP_ret (bodyPD_ret1 (H' := [blk x 93 [(.pointer (some ⟨pb, 0, none⟩)), (.pointer (some ⟨kb, 0, none⟩)), .slice none 0 0, .slice none 0 0, I 0, I (0)], sp, sk, sh, blk ab 110 (args.flatMap valV ++ asp)]) Tryz.call85 (by repeat (first | exact Part.nil _ | (apply Part.cons; (first | exact P0 | exact P1 | exact P2 | exact P3 | exact P4 | exact P5 | exact P6 | exact P7 | exact P8 | exact P9 | exact P10 | exact P11 | exact P12 | exact P13 | exact P14 | exact P15 | exact P16 | exact P17 | exact P18 | exact P19 | exact P20 | exact P21 | exact P22 | exact P23)) | (apply Part.flat; simp only [List.cons_append, List.nil_append]) | (apply Part.nilc))) (call_defer_ret x b5 b10 b11 b12 (.pointer (some ⟨pb, 0, none⟩)) (.pointer (some ⟨kb, 0, none⟩)) (.slice sa j sc) (.slice none 0 0) (.slice none 0 0) (I 0) (.iface 51 (I 7)) 0 0 0) (Res3C rfl rfl rfl rfl Tryz.isAgg35 Tryz.isAgg3 Tryz.isAgg39 (by repeat (first | exact Cell.head rfl | apply Cell.tail)) (by repeat (first | exact Cell.head rfl | apply Cell.tail)) (by repeat (first | exact Cell.head rfl | apply Cell.tail))) (by repeat (first | exact Part.nil _ | (apply Part.cons; (first | exact P0 | exact P1 | exact P2 | exact P3 | exact P4 | exact P5 | exact P6 | exact P7 | exact P8 | exact P9 | exact P10 | exact P11 | exact P12 | exact P13 | exact P14 | exact P15 | exact P16 | exact P17 | exact P18 | exact P19 | exact P20 | exact P21 | exact P22 | exact P23)) | (apply Part.flat; simp only [List.cons_append, List.nil_append]) | (apply Part.nilc))) ?_))))))
        have hfa : fitsAll args ps = false := by
          cases hx : fitsAll args ps with
          | false => rfl
          | true => exact absurd ((fitsAll_iff hpl).1 hx j hji (by omega)) (by simpa using hc70)
        have ho : owed P f args = 7 := by unfold owed; rw [hsig, if_neg (by omega), if_neg (by simp; omega), if_neg (by simp only; omega), if_pos (by simp only; exact hfa)]
        refine ⟨fun _ => ?_, fun h => absurd h (by rw [ho]; decide)⟩
        rw [ho]
        exact ⟨rfl, rfl⟩
      intro hc70
      refine SP_skip ?_
      refine thenP_n ?_
      refine SP_noPanic ?_
      refine SP_draw (Hs := [blk b5 47 [.pointer (some ⟨x, 0, none⟩)], blk x 93 [(.pointer (some ⟨pb, 0, none⟩)), (.pointer (some ⟨kb, 0, none⟩)), .slice sa j sc, .slice none 0 0, I 0, I 0], blk b18 110 (valV args[j])]) 14 [(5, 0), (7, 0), (0, 1), (1, 1), (2, 0), (3, 0), (4, 1), (6, 1), (8, 1), (9, 2), (10, 2), (11, 2), (12, 0), (13, 0), (14, 3)] mixed (by kernel_rfl) (fun _ _ _ _ _ h => h) (by repeat (first | exact Part.nil _ | (apply Part.cons; (first | exact P0 | exact P1 | exact P2 | exact P3 | exact P4 | exact P5 | exact P6 | exact P7 | exact P8 | exact P9 | exact P10 | exact P11 | exact P12 | exact P13 | exact P14 | exact P15 | exact P16 | exact P17 | exact P18 | exact P19 | exact P20 | exact P21 | exact P22 | exact P23)) | (apply Part.flat; simp only [List.cons_append, List.nil_append]) | (apply Part.nilc))) ?_
      refine SPO_p rfl (y_fa fld_110_0 rfl) rfl ?_
      refine SPO_p rfl (y_fa fld_110_1 rfl) rfl ?_
      refine SPO_h rfl (y_load Tryz.isAgg47 rfl (by repeat (first | exact Cell.head rfl | apply Cell.tail))) rfl ?_
      refine SPO_h rfl (y_load Tryz.isAgg47 rfl (by repeat (first | exact Cell.head rfl | apply Cell.tail))) rfl ?_
      refine SPO_p rfl (y_nil rfl) rfl ?_
      refine SPO_p rfl (y_fa fld_93_2 rfl) rfl ?_
      refine SPO_h rfl (y_load Tryz.isAgg90 rfl (by repeat (first | exact Cell.head rfl | apply Cell.tail))) rfl ?_
      refine SPO_h rfl (y_load Tryz.isAgg5 rfl (by repeat (first | exact Cell.head rfl | apply Cell.tail))) rfl ?_
      refine SPO_h rfl (y_load Tryz.isAgg3 rfl (by repeat (first | exact Cell.head rfl | apply Cell.tail))) rfl ?_
      refine SPO_a rfl rfl (SP1_call (run_word args[j].t args[j].v) Tryz.call87 rfl rfl (by repeat (first | exact Part.nil _ | (apply Part.cons; (first | exact P0 | exact P1 | exact P2 | exact P3 | exact P4 | exact P5 | exact P6 | exact P7 | exact P8 | exact P9 | exact P10 | exact P11 | exact P12 | exact P13 | exact P14 | exact P15 | exact P16 | exact P17 | exact P18 | exact P19 | exact P20 | exact P21 | exact P22 | exact P23)) | (apply Part.flat; simp only [List.cons_append, List.nil_append]) | (apply Part.nilc))) ?_)
      rintro v post H' ⟨rfl, rfl⟩ hH
      try simp only [List.cons_append, List.nil_append] at hH
      subst hH
      refine ⟨⟨_, (by repeat (first | exact Part.nil _ | (apply Part.cons; (first | exact P0 | exact P1 | exact P2 | exact P3 | exact P4 | exact P5 | exact P6 | exact P7 | exact P8 | exact P9 | exact P10 | exact P11 | exact P12 | exact P13 | exact P14 | exact P15 | exact P16 | exact P17 | exact P18 | exact P19 | exact P20 | exact P21 | exact P22 | exact P23)) | (apply Part.flat; simp only [List.cons_append, List.nil_append]) | (apply Part.nilc)))⟩, ?_⟩
      refine SPO_a rfl rfl (SP1_slice1 el_90 rfl (W_cells _) rfl rfl rfl ?_)
      intro b82
      refine ⟨⟨_, (by repeat (first | exact Part.nil _ | (apply Part.cons; (first | exact P0 | exact P1 | exact P2 | exact P3 | exact P4 | exact P5 | exact P6 | exact P7 | exact P8 | exact P9 | exact P10 | exact P11 | exact P12 | exact P13 | exact P14 | exact P15 | exact P16 | exact P17 | exact P18 | exact P19 | exact P20 | exact P21 | exact P22 | exact P23)) | (apply Part.flat; simp only [List.cons_append, List.nil_append]) | (apply Part.nilc)))⟩, ?_⟩
      refine SPO_a rfl rfl (SP1_append el_90 (.inl Tryz.underlying90) rfl rfl hst (by first | exact P0 | exact P1 | exact P2 | exact P3 | exact P4 | exact P5 | exact P6 | exact P7 | exact P8 | exact P9 | exact P10 | exact P11 | exact P12 | exact P13 | exact P14 | exact P15 | exact P16 | exact P17 | exact P18 | exact P19 | exact P20 | exact P21 | exact P22 | exact P23) (Src.of (by repeat (first | exact Cells.all _ | exact Cells.head rfl | apply Cells.tail)) (by rfl)) (W_one _) (by omega) rfl ?_)
      intro a1 c1 s3 hAr
      refine ⟨⟨_, (by repeat (first | exact Part.nil _ | (apply Part.cons; (first | exact P0 | exact P1 | exact P2 | exact P3 | exact P4 | exact P5 | exact P6 | exact P7 | exact P8 | exact P9 | exact P10 | exact P11 | exact P12 | exact P13 | exact P14 | exact P15 | exact P16 | exact P17 | exact P18 | exact P19 | exact P20 | exact P21 | exact P22 | exact P23)) | (apply Part.flat; simp only [List.cons_append, List.nil_append]) | (apply Part.nilc)))⟩, ?_⟩
      refine SPO_p rfl (y_nil rfl) rfl ?_
      refine SPO_p rfl (y_fa fld_93_2 rfl) rfl ?_
      refine SPO_z (k := 0) rfl rfl (SP1_store Tryz.sizeOf90 rfl rfl rfl (by first | exact U0 | exact U1 | exact U2 | exact U3 | exact U4 | exact U5 | exact U6 | exact U7 | exact U8 | exact U9 | exact U10 | exact U11 | exact U12 | exact U13 | exact U14 | exact U15 | exact U16 | exact U17 | exact U18 | exact U19 | exact U20 | exact U21 | exact U22 | exact U23) (by rfl) ?_)
      refine SPO_nil ?_
      refine noPanicP_n ?_
      refine inBlockP_n ?_
      refine thenP_n ?_
      refine SP_region ?_
      refine SPL_y (y_add rfl rfl (by omega)) rfl ?_
      refine SPL_y (y_move rfl) rfl ?_
      refine SPL_nil ?_
      refine thenP_n ?_
      have hta : args.take (j + 1) = args.take j ++ [args[j]] := List.take_succ_eq_append_getElem hji
      have he : argsW (args.take (j + 1)) = argsW (args.take j) ++ [word args[j].t args[j].v] := by unfold argsW; rw [hta, List.map_append]; rfl
      rw [← st_snoc, ← he] at hAr
      have hfit' : ∀ (q : Nat) (h1 : q < args.length) (h2 : q < ps.length), q < j + 1 → fits args[q] ps[q] = true := fun q h1 h2 h3 => by
        by_cases e : q = j
        · subst e; simpa using hc70
        · exact hfit q h1 h2 (by omega)
      exact Again.intro (⟨j + 1, a1, c1, s3⟩) (⟨by dsimp only; omega, hAr, hfit'⟩) (by dsimp only; omega) (by repeat (first | exact Sub.nil _ | refine Sub.cons rfl ?_)) (by repeat (first | exact Part.nil _ | (apply Part.cons; (first | exact P0 | exact P1 | exact P2 | exact P3 | exact P4 | exact P5 | exact P6 | exact P7 | exact P8 | exact P9 | exact P10 | exact P11 | exact P12 | exact P13 | exact P14 | exact P15 | exact P16 | exact P17 | exact P18 | exact P19 | exact P20 | exact P21 | exact P22 | exact P23)) | (apply Part.flat; simp only [List.cons_append, List.nil_append]) | (apply Part.nilc)))
    intro h11_0
    refine SPL_nil ?_
    refine thenP_n ?_
    refine SP_seq ?_
    refine SP_cond_f rfl ?_
    refine SP_exit ?_
    refine thenP_exit ?_
    refine thenP_exit ?_
    refine inBlockP_hit ?_
    refine thenP_n ?_
    refine SP_seq ?_
    obtain rfl : j = args.length := by omega
    rw [List.take_length] at hst
    have hfa : fitsAll args ps = true := (fitsAll_iff hpl).2 fun q h1 h2 => hfit q h1 h2 h1
    have hwt : (argsW args).map W.t = ps := argsW_t hfa hps
    have hwl : (argsW args).length = args.length := by unfold argsW; simp
    have ho : owed P f args = 0 := by unfold owed; rw [hsig, if_neg (by omega), if_neg (by simp; omega), if_neg (by simp only; omega), if_neg (by simp only; rw [hfa]; decide)]
    have hm1 : isInst x (.pointer (some ⟨pb, 0, none⟩)) (.pointer (some ⟨kb, 0, none⟩)) none ⟨argsW args, [], 0, 0⟩ (List.flatten [blk x 93 [(.pointer (some ⟨pb, 0, none⟩)), (.pointer (some ⟨kb, 0, none⟩)), .slice sa args.length sc, .slice none 0 0, I 0, I 0], ss, []]) := ⟨sa, sc, 0, ss, [], by rw [hwl]; rfl, by rw [hwl]; exact hst, ⟨rfl, .inl ⟨rfl, rfl, rfl, rfl⟩⟩⟩
    refine SP_region ?_
    refine SPL_y (y_load Tryz.isAgg47 rfl (by repeat (first | exact Cell.head rfl | apply Cell.tail))) rfl ?_
    refine SPL_y (y_move rfl) rfl ?_
    refine SPL_one rfl (SP1_call (run_enter x (.pointer (some ⟨kb, 0, none⟩)) pb pfa P steps sp hp none ⟨argsW args, [], 0, 0⟩ _ hm1 ⟨by show (argsW args).length ≤ _; rw [hwl]; omega, by simp⟩ f 0 [] (argsW args) rs ls rfl (Nat.le_refl _) (by rw [hwt, hsig]) (by omega)) Tryz.call88 rfl rfl (by repeat (first | exact Part.nil _ | (apply Part.cons; (first | exact P0 | exact P1 | exact P2 | exact P3 | exact P4 | exact P5 | exact P6 | exact P7 | exact P8 | exact P9 | exact P10 | exact P11 | exact P12 | exact P13 | exact P14 | exact P15 | exact P16 | exact P17 | exact P18 | exact P19 | exact P20 | exact P21 | exact P22 | exact P23)) | (apply Part.flat; simp only [List.cons_append, List.nil_append]) | (apply Part.nilc))) ?_)
    rintro v post H' ⟨s2, fa2, rfl, rfl, hm2⟩ hH
    try simp only [List.cons_append, List.nil_append] at hH
    subst hH
    refine SPL_nil ?_
    refine thenP_n ?_
    refine SP_seq ?_
    have hm3 : isInst x (.pointer (some ⟨pb, 0, none⟩)) (.pointer (some ⟨kb, 0, none⟩)) fa2 (startVM P steps mem host f args).i s2 := by
      unfold startVM startI; rw [hsig]; exact hm2
    refine SP_region ?_
    refine SPL_y (y_load Tryz.isAgg47 rfl (by repeat (first | exact Cell.head rfl | apply Cell.tail))) rfl ?_
    refine SPL_y (y_move rfl) rfl ?_
    refine SPL_y (y_move rfl) rfl ?_
    refine SPL_one rfl (SP1_callp (run_loop x pb kb hb pfa fuel hfuel (hostV hb host) Good mu hG hS (startVM P steps mem host f args) (hg ho) fa2 s2 sp sk sh hm3 hp hk hh rfl) Tryz.call89 rfl rfl (by repeat (first | exact Part.nil _ | (apply Part.cons; (first | exact P0 | exact P1 | exact P2 | exact P3 | exact P4 | exact P5 | exact P6 | exact P7 | exact P8 | exact P9 | exact P10 | exact P11 | exact P12 | exact P13 | exact P14 | exact P15 | exact P16 | exact P17 | exact P18 | exact P19 | exact P20 | exact P21 | exact P22 | exact P23)) | (apply Part.flat; simp only [List.cons_append, List.nil_append]) | (apply Part.nilc))) ?_ ?_)
    · rintro c9 post H' ⟨m, mm, e9, s9, sp9, sk9, sh9, fa9, st9, fr9, hgm, hstp, hne9, rfl, rfl, hm9, hp9, hk9, hh9⟩ hH
      obtain ⟨sa9, sc9, fc9, ss9, sf9, rfl, hst9, hfr9⟩ := hm9
      try simp only [List.cons_append, List.nil_append] at hH
      subst hH
      refine thenP_panic (bodyPD_panic1 (H' := [blk x 93 [(.pointer (some ⟨pb, 0, none⟩)), (.pointer (some ⟨kb, 0, none⟩)), .slice none 0 0, .slice none 0 0, I 0, I (mm.i.high)], sp9, sk9, sh9, sargs]) Tryz.call85 (by repeat (first | exact Part.nil _ | (apply Part.cons; (first | exact P0 | exact P1 | exact P2 | exact P3 | exact P4 | exact P5 | exact P6 | exact P7 | exact P8 | exact P9 | exact P10 | exact P11 | exact P12 | exact P13 | exact P14 | exact P15 | exact P16 | exact P17 | exact P18 | exact P19 | exact P20 | exact P21 | exact P22 | exact P23)) | (apply Part.flat; simp only [List.cons_append, List.nil_append]) | (apply Part.nilc))) ((call_defer_pan x b5 b10 b11 b12 (.pointer (some ⟨pb, 0, none⟩)) (.pointer (some ⟨kb, 0, none⟩)) (.slice sa9 st9.length sc9) (.slice fa9 fr9.length fc9) (.slice none 0 0) (I 0) .nilIface mm.i.used mm.i.high e9).frame [ss9, sf9] (pre' := [blk b5 47 [.pointer (some ⟨x, 0, none⟩)], blk b10 35 [.slice none 0 0], blk b11 3 [I 0], blk b12 39 [.nilIface], List.flatten [blk x 93 [(.pointer (some ⟨pb, 0, none⟩)), (.pointer (some ⟨kb, 0, none⟩)), .slice sa9 st9.length sc9, .slice fa9 fr9.length fc9, I mm.i.used, I mm.i.high], ss9, sf9]]) (by simp)) (Res3C rfl rfl rfl rfl Tryz.isAgg35 Tryz.isAgg3 Tryz.isAgg39 (by repeat (first | exact Cell.head rfl | apply Cell.tail)) (by repeat (first | exact Cell.head rfl | apply Cell.tail)) (by repeat (first | exact Cell.head rfl | apply Cell.tail))) (by repeat (first | exact Part.nil _ | (apply Part.cons; (first | exact P0 | exact P1 | exact P2 | exact P3 | exact P4 | exact P5 | exact P6 | exact P7 | exact P8 | exact P9 | exact P10 | exact P11 | exact P12 | exact P13 | exact P14 | exact P15 | exact P16 | exact P17 | exact P18 | exact P19 | exact P20 | exact P21 | exact P22 | exact P23)) | (apply Part.flat; simp only [List.cons_append, List.nil_append]) | (apply Part.nilc))) ?_)
      exact ⟨fun h => absurd ho h, fun _ => .inr ⟨m, mm, e9, sp9, sk9, sh9, hgm, hstp, hne9, rfl, rfl, hp9, hk9, hh9⟩⟩
    rintro v post H' ⟨m, mm, s9, sp9, sk9, sh9, fa9, hgm, hstp, rfl, rfl, hm9, hp9, hk9, hh9⟩ hH
    try simp only [List.cons_append, List.nil_append] at hH
    subst hH
    refine SPL_nil ?_
    refine thenP_n ?_
    refine SP_seq ?_
    have hdone := step_done (hG m hgm) hstp
    obtain ⟨sa9, sc9, fc9, ss9, sf9, rfl, hst9, hfr9⟩ := hm9
    refine SP_open (by first | exact P0 | exact P1 | exact P2 | exact P3 | exact P4 | exact P5 | exact P6 | exact P7 | exact P8 | exact P9 | exact P10 | exact P11 | exact P12 | exact P13 | exact P14 | exact P15 | exact P16 | exact P17 | exact P18 | exact P19 | exact P20 | exact P21 | exact P22 | exact P23) ?_
    simp only [List.cons_append, List.nil_append]
    refine SP_region ?_
    refine SPL_y (y_load Tryz.isAgg47 rfl (by repeat (first | exact Cell.head rfl | apply Cell.tail))) rfl ?_
    refine SPL_y (y_nil rfl) rfl ?_
    refine SPL_y (y_fa fld_93_2 rfl) rfl ?_
    refine SPL_y (y_load Tryz.isAgg90 rfl (by repeat (first | exact Cell.head rfl | apply Cell.tail))) rfl ?_
    refine SPL_y (y_len_l Tryz.underlying90 rfl) rfl ?_
    refine SPL_one rfl (SP1_make el_35 rfl (by omega) rfl ?_)
    intro b99
    refine SPL_one rfl (SP1_store Tryz.sizeOf35 rfl rfl rfl (by first | exact U0 | exact U1 | exact U2 | exact U3 | exact U4 | exact U5 | exact U6 | exact U7 | exact U8 | exact U9 | exact U10 | exact U11 | exact U12 | exact U13 | exact U14 | exact U15 | exact U16 | exact U17 | exact U18 | exact U19 | exact U20 | exact U21 | exact U22 | exact U23) (by rfl) ?_)
    refine SPL_nil ?_
    refine thenP_n ?_
    refine SP_seq ?_
    refine SP_seq ?_
    rw [show (List.replicate mm.i.st.length [Value.int .u8 0, .int .i64 0]).flatten = ((mm.i.st.take 0).map W.val).flatMap valV ++ (List.replicate (mm.i.st.length - 0) zval).flatten from rfl]
    refine SP_region ?_
    refine SPL_y (y_load Tryz.isAgg47 rfl (by repeat (first | exact Cell.head rfl | apply Cell.tail))) rfl ?_
    refine SPL_y (y_nil rfl) rfl ?_
    refine SPL_y (y_fa fld_93_2 rfl) rfl ?_
    refine SPL_y (y_load Tryz.isAgg90 rfl (by repeat (first | exact Cell.head rfl | apply Cell.tail))) rfl ?_
    refine SPL_y (y_len_l Tryz.underlying90 rfl) rfl ?_
    refine SPL_y (y_move rfl) rfl ?_
    refine SPL_nil ?_
    refine thenP_n ?_
    refine SP_block ?_
    refine SP_loop (G := Nat) (fun j => mm.i.st.length - j) (fun j => [(5, .pointer (some ⟨b5, 0, none⟩)), (10, .pointer (some ⟨b10, 0, none⟩)), (11, .pointer (some ⟨b11, 0, none⟩)), (12, .pointer (some ⟨b12, 0, none⟩)), (103, .slice sa9 mm.i.st.length sc9), (104, I mm.i.st.length), (105, I (j : Nat))]) (fun j => [blk b99 110 (((mm.i.st.take j).map W.val).flatMap valV ++ (List.replicate (mm.i.st.length - j) zval).flatten), blk b5 47 [.pointer (some ⟨x, 0, none⟩)], blk b10 35 [.slice (some ⟨b99, 0, none⟩) mm.i.st.length mm.i.st.length], blk b11 3 [I 0], blk b12 39 [.nilIface], blk x 93 [(.pointer (some ⟨pb, 0, none⟩)), (.pointer (some ⟨kb, 0, none⟩)), .slice sa9 mm.i.st.length sc9, .slice fa9 mm.i.fr.length fc9, I mm.i.used, I mm.i.high], ss9, sf9, sp9, sk9, sh9, sargs]) (fun j => j ≤ mm.i.st.length) (0) (Nat.zero_le _) (by repeat (first | exact Sub.nil _ | refine Sub.cons rfl ?_)) (by repeat (first | exact Part.nil _ | (apply Part.cons; (first | exact P0 | exact P1 | exact P2 | exact P3 | exact P4 | exact P5 | exact P6 | exact P7 | exact P8 | exact P9 | exact P10 | exact P11 | exact P12 | exact P13 | exact P14 | exact P15 | exact P16 | exact P17 | exact P18 | exact P19 | exact P20 | exact P21 | exact P22 | exact P23)) | (apply Part.flat; simp only [List.cons_append, List.nil_append]) | (apply Part.nilc))) ?_
    rintro j hj
    refine SP_seq ?_
    refine SP_region ?_
    refine SPL_ifn (y_lss rfl rfl) rfl ?_ ?_
    · intro h21_0
      refine SPL_nil ?_
      refine thenP_n ?_
      refine SP_seq ?_
      refine SP_cond_f rfl ?_
      refine SP_exit ?_
      refine thenP_exit ?_
      refine thenP_exit ?_
      refine inBlockP_hit ?_
      refine thenP_n ?_
      refine SP_seq ?_
      obtain rfl : j = mm.i.st.length := by omega
      rw [List.take_length, Nat.sub_self, List.replicate_zero, List.flatten_nil, List.append_nil]
      refine SP_noPanic ?_
      refine SP_draw 6 [(0, 1), (1, 1), (2, 0), (3, 0), (4, 1), (5, 2), (6, 3), (7, 3)] mixed (by kernel_rfl) (fun _ _ _ _ _ h => h) (Part.refl _) ?_
      refine SPO_h rfl (y_load Tryz.isAgg35 rfl (by repeat (first | exact Cell.head rfl | apply Cell.tail))) rfl ?_
      refine SPO_h rfl (y_load Tryz.isAgg47 rfl (by repeat (first | exact Cell.head rfl | apply Cell.tail))) rfl ?_
      refine SPO_p rfl (y_nil rfl) rfl ?_
      refine SPO_p rfl (y_fa fld_93_4 rfl) rfl ?_
      refine SPO_h rfl (y_load Tryz.isAgg3 rfl (by repeat (first | exact Cell.head rfl | apply Cell.tail))) rfl ?_
      refine SPO_a rfl rfl (SP1_store Tryz.sizeOf35 rfl rfl rfl (by first | exact U0 | exact U1 | exact U2 | exact U3 | exact U4 | exact U5 | exact U6 | exact U7 | exact U8 | exact U9 | exact U10 | exact U11 | exact U12 | exact U13 | exact U14 | exact U15 | exact U16 | exact U17 | exact U18 | exact U19 | exact U20 | exact U21 | exact U22 | exact U23) (by rfl) ?_)
      refine ⟨⟨_, (by repeat (first | exact Part.nil _ | (apply Part.cons; (first | exact P0 | exact P1 | exact P2 | exact P3 | exact P4 | exact P5 | exact P6 | exact P7 | exact P8 | exact P9 | exact P10 | exact P11 | exact P12 | exact P13 | exact P14 | exact P15 | exact P16 | exact P17 | exact P18 | exact P19 | exact P20 | exact P21 | exact P22 | exact P23)) | (apply Part.flat; simp only [List.cons_append, List.nil_append]) | (apply Part.nilc)))⟩, ?_⟩
      refine SPO_z (k := 0) rfl rfl (SP1_store Tryz.sizeOf3 rfl rfl rfl (by first | exact U0 | exact U1 | exact U2 | exact U3 | exact U4 | exact U5 | exact U6 | exact U7 | exact U8 | exact U9 | exact U10 | exact U11 | exact U12 | exact U13 | exact U14 | exact U15 | exact U16 | exact U17 | exact U18 | exact U19 | exact U20 | exact U21 | exact U22 | exact U23) (by rfl) ?_)
      refine SPO_z (k := 0) rfl rfl (SP1_store Tryz.sizeOf39 rfl rfl rfl (by first | exact U0 | exact U1 | exact U2 | exact U3 | exact U4 | exact U5 | exact U6 | exact U7 | exact U8 | exact U9 | exact U10 | exact U11 | exact U12 | exact U13 | exact U14 | exact U15 | exact U16 | exact U17 | exact U18 | exact U19 | exact U20 | exact U21 | exact U22 | exact U23) (by rfl) ?_)
      refine SPO_nil ?_
      refine noPanicP_n ?_
      refine thenP_n ?_
      refine SP_ret ?_
      refine bodyPD_ret1 (H' := [blk x 93 [(.pointer (some ⟨pb, 0, none⟩)), (.pointer (some ⟨kb, 0, none⟩)), .slice none 0 0, .slice none 0 0, I 0, I (mm.i.high)], sp9, sk9, sh9, sargs, blk b99 110 ((mm.i.st.map W.val).flatMap valV)]) Tryz.call85 (by repeat (first | exact Part.nil _ | (apply Part.cons; (first | exact P0 | exact P1 | exact P2 | exact P3 | exact P4 | exact P5 | exact P6 | exact P7 | exact P8 | exact P9 | exact P10 | exact P11 | exact P12 | exact P13 | exact P14 | exact P15 | exact P16 | exact P17 | exact P18 | exact P19 | exact P20 | exact P21 | exact P22 | exact P23)) | (apply Part.flat; simp only [List.cons_append, List.nil_append]) | (apply Part.nilc))) (call_defer_ret x b5 b10 b11 b12 (.pointer (some ⟨pb, 0, none⟩)) (.pointer (some ⟨kb, 0, none⟩)) (.slice sa9 mm.i.st.length sc9) (.slice fa9 mm.i.fr.length fc9) (.slice (some ⟨b99, 0, none⟩) mm.i.st.length mm.i.st.length) (I mm.i.used) .nilIface mm.i.used mm.i.high 0) (Res3C rfl rfl rfl rfl Tryz.isAgg35 Tryz.isAgg3 Tryz.isAgg39 (by repeat (first | exact Cell.head rfl | apply Cell.tail)) (by repeat (first | exact Cell.head rfl | apply Cell.tail)) (by repeat (first | exact Cell.head rfl | apply Cell.tail))) (by repeat (first | exact Part.nil _ | (apply Part.cons; (first | exact P0 | exact P1 | exact P2 | exact P3 | exact P4 | exact P5 | exact P6 | exact P7 | exact P8 | exact P9 | exact P10 | exact P11 | exact P12 | exact P13 | exact P14 | exact P15 | exact P16 | exact P17 | exact P18 | exact P19 | exact P20 | exact P21 | exact P22 | exact P23)) | (apply Part.flat; simp only [List.cons_append, List.nil_append]) | (apply Part.nilc))) ?_
      exact ⟨fun h => absurd ho h, fun _ => .inl ⟨m, mm, b99, sp9, sk9, sh9, hgm, hstp, rfl, rfl, hp9, hk9, hh9⟩⟩
    intro h21_0
    refine SPL_nil ?_
    refine thenP_n ?_
    refine SP_seq ?_
    refine SP_cond_t rfl ?_
    refine SP_skip ?_
    refine thenP_n ?_
    refine SP_seq ?_
    refine SP_block ?_
    refine SP_seq ?_
    have hjl : j < mm.i.st.length := by omega
    obtain ⟨bs, sps, rfl, hsc, hsps, rfl⟩ := hst9.row (by omega)
    refine SP_region ?_
    refine SPL_y (y_move rfl) rfl ?_
    refine SPL_y (y_ia Tryz.underlying90 Tryz.sizeOf209 rfl rfl (by omega)) rfl ?_
    refine SPL_y (y_load Tryz.isAgg209 rfl (by repeat (first | exact Cell.head (show (mm.i.st.map W.v ++ sps)[0 + ((j : Nat) : Int).toNat * 1]? = some mm.i.st[j].v by rw [show 0 + ((j : Nat) : Int).toNat * 1 = j by omega, List.getElem?_append_left (by simpa using hjl), List.getElem?_map, List.getElem?_eq_getElem hjl]; rfl) | apply Cell.tail))) rfl ?_
    refine SPL_y (y_assign rfl) rfl ?_
    refine SPL_y (y_assign rfl) rfl ?_
    refine SPL_nil ?_
    refine thenP_n ?_
    refine SP_noPanic ?_
    refine SP_draw 5 [(1, 0), (2, 0), (0, 1), (3, 2), (4, 0), (5, 3)] mixed (by kernel_rfl) (fun _ _ _ _ _ h => h) (Part.refl _) ?_
    refine SPO_p rfl (y_move rfl) rfl ?_
    refine SPO_p rfl (y_move rfl) rfl ?_
    refine SPO_h rfl (y_load Tryz.isAgg35 rfl (by repeat (first | exact Cell.head rfl | apply Cell.tail))) rfl ?_
    refine SPO_a rfl rfl (SP1_call (run_out mm.i.st[j] (hdone.2.1 _ (List.getElem_mem hjl))) Tryz.call90 rfl rfl (by repeat (first | exact Part.nil _ | (apply Part.cons; (first | exact P0 | exact P1 | exact P2 | exact P3 | exact P4 | exact P5 | exact P6 | exact P7 | exact P8 | exact P9 | exact P10 | exact P11 | exact P12 | exact P13 | exact P14 | exact P15 | exact P16 | exact P17 | exact P18 | exact P19 | exact P20 | exact P21 | exact P22 | exact P23)) | (apply Part.flat; simp only [List.cons_append, List.nil_append]) | (apply Part.nilc))) ?_)
    rintro v post H' ⟨rfl, rfl⟩ hH
    try simp only [List.cons_append, List.nil_append] at hH
    subst hH
    refine ⟨⟨_, (by repeat (first | exact Part.nil _ | (apply Part.cons; (first | exact P0 | exact P1 | exact P2 | exact P3 | exact P4 | exact P5 | exact P6 | exact P7 | exact P8 | exact P9 | exact P10 | exact P11 | exact P12 | exact P13 | exact P14 | exact P15 | exact P16 | exact P17 | exact P18 | exact P19 | exact P20 | exact P21 | exact P22 | exact P23)) | (apply Part.flat; simp only [List.cons_append, List.nil_append]) | (apply Part.nilc)))⟩, ?_⟩
    refine SPO_p rfl (y_ia Tryz.underlying35 Tryz.sizeOf110 rfl rfl (by omega)) rfl ?_
    refine SPO_z (k := 0) rfl rfl (SP1_stores (vs := valV mm.i.st[j].val) (l' := ((mm.i.st.take (j + 1)).map W.val).flatMap valV ++ (List.replicate (mm.i.st.length - (j + 1)) zval).flatten) Tryz.sizeOf110 rfl rfl rfl rfl (by simp [valV]; exact ⟨rfl, rfl⟩) (by first | exact U0 | exact U1 | exact U2 | exact U3 | exact U4 | exact U5 | exact U6 | exact U7 | exact U8 | exact U9 | exact U10 | exact U11 | exact U12 | exact U13 | exact U14 | exact U15 | exact U16 | exact U17 | exact U18 | exact U19 | exact U20 | exact U21 | exact U22 | exact U23) (by rw [List.length_append, flat_len valV_len, zval_len, List.length_map, List.length_take]; simp only [valV, List.length_cons, List.length_nil]; omega) (out_put hjl).symm ?_)
    refine SPO_nil ?_
    refine noPanicP_n ?_
    refine inBlockP_n ?_
    refine thenP_n ?_
    refine SP_region ?_
    refine SPL_y (y_add rfl rfl (by omega)) rfl ?_
    refine SPL_y (y_move rfl) rfl ?_
    refine SPL_nil ?_
    refine thenP_n ?_
    exact Again.intro (j + 1) (by omega) (by omega) (by repeat (first | exact Sub.nil _ | refine Sub.cons rfl ?_)) (by repeat (first | exact Part.nil _ | (apply Part.cons; (first | exact P0 | exact P1 | exact P2 | exact P3 | exact P4 | exact P5 | exact P6 | exact P7 | exact P8 | exact P9 | exact P10 | exact P11 | exact P12 | exact P13 | exact P14 | exact P15 | exact P16 | exact P17 | exact P18 | exact P19 | exact P20 | exact P21 | exact P22 | exact P23)) | (apply Part.flat; simp only [List.cons_append, List.nil_append]) | (apply Part.nilc)))

end Go.Sl
