/- Walks: the scripted host, Call (made by program out of short notes) -/
import Derived.Test.Qxb6500572aGreatDoorWHost
namespace Go.Sl
open Go Go.Wl Go.Proofs
set_option maxRecDepth 100000
set_option linter.unusedVariables false
set_option linter.unusedSimpArgs false
theorem B303 : Bld Tryz.prog 303 [] := by
  refine ⟨Tryz.zeroValue303, [], Tryz.underlying303, rfl, ?_⟩
  intro i f h
  simp at h

theorem scrib_get {n j : Nat} (h : j < n) (sp : List Value) : ((List.replicate n scrib).flatten ++ sp)[0 + ((j : Nat) : Int).toNat * 2 + 0]? = some (.int .u8 33) := by
  rw [show 0 + ((j : Nat) : Int).toNat * 2 + 0 = j * 2 by omega]
  induction n generalizing j with
  | zero => omega
  | succ n ih =>
    rw [List.replicate_succ, List.flatten_cons, List.append_assoc]
    cases j with
    | zero => rfl
    | succ j =>
      have := ih (j := j) (by omega)
      rw [show (j + 1) * 2 = j * 2 + 2 by omega]
      exact this
theorem scrib_len (n : Nat) : (List.replicate n scrib).flatten.length = n * 2 := by
  induction n with
  | zero => rfl
  | succ n ih => rw [List.replicate_succ, List.flatten_cons, List.length_append, ih]; simp [scrib]; omega
theorem scrib_put {args : List Val} {j : Nat} {sp : List Value} (h : j < args.length) :
    let l := (List.replicate j scrib).flatten ++ (args.drop j).flatMap valV ++ sp
    l.take (0 + ((j : Nat) : Int).toNat * 2) ++ scrib ++ l.drop (0 + ((j : Nat) : Int).toNat * 2 + 2) = (List.replicate (j + 1) scrib).flatten ++ (args.drop (j + 1)).flatMap valV ++ sp := by
  intro l
  have e : l = (List.replicate j scrib).flatten ++ (valV args[j] ++ ((args.drop (j + 1)).flatMap valV ++ sp)) := by
    show (List.replicate j scrib).flatten ++ (args.drop j).flatMap valV ++ sp = _
    rw [List.drop_eq_getElem_cons h, List.flatMap_cons]; simp
  have hl : 0 + ((j : Nat) : Int).toNat * 2 = (List.replicate j scrib).flatten.length := by rw [scrib_len]; omega
  rw [e, hl, List.take_left, ← List.drop_drop, List.drop_left, List.replicate_succ', List.flatten_append]
  simp [valV]

theorem tape_next {b : Nat} {h : Host} {tr : List UInt8} {m kc2 : Nat} {ka2 va : Option Addr} {vc : Nat} {cs : List Value} {sk2 sr sv : Seg} (h1 : Arr 35 1 ka2 (h.kept.length + 1) kc2 (cs ++ [.slice va m vc]) sk2) (h2 : KeptR h.kept cs sr) (h3 : Arr 110 2 va m vc ((List.replicate m scrib).flatten) sv) :
    isTape b { h with trace := tr, k := h.k + 1, kept := h.kept ++ [m] } (List.flatten [blk b 138 [S h.s, S tr, I ((h.k : Int) + 1), .slice ka2 (h.kept.length + 1) kc2], sk2, List.flatten [sr, sv]]) := by
  refine ⟨ka2, kc2, _, sk2, _, by simp only [List.length_append, List.length_cons, List.length_nil]; rfl, by simp only [List.length_append, List.length_cons, List.length_nil]; exact h1, h2.snoc h3⟩
theorem host_go {h : Host} {imq : Int} {args : List Val} (h0 : h.kind = 0) (h1 : ¬ 6 < h.k) : hostCall h imq args = ({ h with trace := h.trace ++ [104] ++ numS imq ++ valsS args, k := h.k + 1, kept := h.kept ++ [args.length] },
      (if (answer h.s h.k).2 = 0 then (answer h.s h.k).1 else []),
      if (answer h.s h.k).2 = 0 then ⟨0, 0⟩
      else if (answer h.s h.k).2 = 16 ∧ (6 < h.k + 1 ∨ h.s.length < 2 * (h.k + 1)) then ⟨1, 16⟩
      else if ((h.s.getD (2 * h.k) 0).toNat : Int) = 84 then ⟨1, sgn (h.s.getD (2 * h.k + 1) 0)⟩
      else if ((h.s.getD (2 * h.k) 0).toNat : Int) = 87 then ⟨2, 0⟩
      else ⟨3, 0⟩) := by
  unfold hostCall; rw [if_neg (by omega), if_neg h1]

theorem tape_Call (b : Nat) (h : Host) (s : Seg) (hm : isTape b h s) (hk0 : h.kind = 0) (imq : Int) (him : 0 ≤ imq ∧ imq ≤ 1000000) (va : Option Addr) (vc : Nat) (args : List Val) (sv : Seg) (ha : Arr 110 2 va args.length vc (args.flatMap valV) sv) (hb1 : h.trace.length ≤ 100000) (hb2 : h.s.length ≤ 140737488351232) (hb3 : args.length ≤ 1000) (hb4 : h.kept.length ≤ 1000) (hb5 : h.k ≤ 1000000000) (hb6 : ∀ n, n ∈ h.kept → n ≤ 1000) (hr : ∀ x, x ∈ args → -9223372036854775808 ≤ x.v ∧ x.v ≤ 9223372036854775807) : Spec Tryz.prog 191 [.pointer (some ⟨b, 0, none⟩), I imq, .slice va args.length vc] [s, sv] (Ret fun v H => ∃ a c s' sa, v = .tuple #[.slice a (hostCall h imq args).2.1.length c, herrV (hostCall h imq args).2.2] ∧ H = [s', sa] ∧ isTape b (hostCall h imq args).1 s' ∧ Arr 110 2 a (hostCall h imq args).2.1.length c ((hostCall h imq args).2.1.flatMap valV) sa) := by
  have hm0 := hm
  obtain ⟨ka, kc, cs, sk, sr, rfl, hkr, hkp⟩ := hm
  refine Spec_flat ?_
  simp only [List.cons_append, List.nil_append]
  refine Spec_enter Tryz.func191 rfl Tryz.ntmps191 rfl ?_
  show SP _ _ _ _ _ [(0, _), (1, _), (2, _)] _
  refine SP_seq ?_
  refine SP_region ?_
  refine SPL_y (y_assign rfl) rfl ?_
  refine SPL_y (y_assign rfl) rfl ?_
  refine SPL_nil ?_
  refine thenP_n ?_
  refine SP_seq ?_
  refine SP_seq ?_
  refine SP_region ?_
  refine SPL_y (y_move rfl) rfl ?_
  refine SPL_y (y_peq_nil (a := some _) Tryz.underlying135 rfl rfl) rfl ?_
  refine SPL_nil ?_
  refine thenP_n ?_
  refine SP_cond_f rfl ?_
  refine SP_skip ?_
  refine thenP_n ?_
  refine SP_seq ?_
  refine SP_seq ?_
  refine SP_region ?_
  refine SPL_y (y_move rfl) rfl ?_
  refine SPL_y (y_nil rfl) rfl ?_
  refine SPL_y (y_fa fld_138_2 rfl) rfl ?_
  refine SPL_y (y_load Tryz.isAgg3 rfl (by repeat (first | exact Cell.head rfl | apply Cell.tail))) rfl ?_
  refine SPL_if (y_gtr rfl rfl) rfl ?_ ?_
  · intro h3_4
    refine SPL_nil ?_
    refine thenP_n ?_
    refine SP_cond_t rfl ?_
    refine SP_seq ?_
    refine SP_region ?_
    refine SPL_y (y_mki Tryz.underlying51 rfl rfl) rfl ?_
    refine SPL_y (y_assign rfl) rfl ?_
    refine SPL_y (y_assign rfl) rfl ?_
    refine SPL_nil ?_
    refine thenP_n ?_
    refine SP_ret ?_
    refine thenP_ret (bodyP_ret (H' := [List.flatten [blk b 138 [S h.s, S h.trace, I h.k, .slice ka h.kept.length kc], sk, sr], []]) (Res2 rfl rfl rfl) (by repeat (first | exact Part.nil _ | (apply Part.cons; (first | exact P0 | exact P1 | exact P2 | exact P3 | exact P4 | exact P5 | exact P6 | exact P7 | exact P8 | exact P9 | exact P10 | exact P11 | exact P12 | exact P13 | exact P14 | exact P15 | exact P16 | exact P17 | exact P18 | exact P19 | exact P20 | exact P21 | exact P22 | exact P23)) | (apply Part.flat; simp only [List.cons_append, List.nil_append]) | (apply Part.nilc))) ?_)
    have e : hostCall h imq args = (h, [], ⟨1, 16⟩) := by unfold hostCall; rw [if_neg (by omega), if_pos (by omega)]
    rw [e]
    exact ⟨none, 0, _, _, rfl, rfl, hm0, rfl, .inl ⟨rfl, rfl, rfl, rfl⟩⟩
  intro h3_4
  refine SPL_nil ?_
  refine thenP_n ?_
  refine SP_cond_f rfl ?_
  refine SP_skip ?_
  refine thenP_n ?_
  refine SP_seq ?_
  refine SP_seq ?_
  refine SP_region ?_
  refine SPL_y (y_assign rfl) rfl ?_
  refine SPL_nil ?_
  refine thenP_n ?_
  refine SP_block ?_
  refine SP_loop (G := Nat) (fun i => h.kept.length - i) (fun i => [(0, .pointer (some ⟨b, 0, none⟩)), (1, I imq), (2, .slice va args.length vc), (8, I (i : Nat))]) (fun _ => [blk b 138 [S h.s, S h.trace, I h.k, .slice ka h.kept.length kc], sk, sr, sv]) (fun i => i ≤ h.kept.length) (0) (Nat.zero_le _) (by repeat (first | exact Sub.nil _ | refine Sub.cons rfl ?_)) (by repeat (first | exact Part.nil _ | (apply Part.cons; (first | exact P0 | exact P1 | exact P2 | exact P3 | exact P4 | exact P5 | exact P6 | exact P7 | exact P8 | exact P9 | exact P10 | exact P11 | exact P12 | exact P13 | exact P14 | exact P15 | exact P16 | exact P17 | exact P18 | exact P19 | exact P20 | exact P21 | exact P22 | exact P23)) | (apply Part.flat; simp only [List.cons_append, List.nil_append]) | (apply Part.nilc))) ?_
  rintro i hi
  refine SP_seq ?_
  refine SP_seq ?_
  refine SP_region ?_
  refine SPL_y (y_move rfl) rfl ?_
  refine SPL_y (y_move rfl) rfl ?_
  refine SPL_y (y_nil rfl) rfl ?_
  refine SPL_y (y_fa fld_138_3 rfl) rfl ?_
  refine SPL_y (y_load Tryz.isAgg136 rfl (by repeat (first | exact Cell.head rfl | apply Cell.tail))) rfl ?_
  refine SPL_y (y_len_l Tryz.underlying136 rfl) rfl ?_
  refine SPL_if (y_lss rfl rfl) rfl ?_ ?_
  · intro h6_6
    refine SPL_nil ?_
    refine thenP_n ?_
    refine SP_cond_t rfl ?_
    refine SP_skip ?_
    refine thenP_n ?_
    refine SP_seq ?_
    refine SP_block ?_
    refine SP_seq ?_
    have hil : i < h.kept.length := by omega
    obtain ⟨kb, ksp, rfl, hkc, hksp, rfl⟩ := hkr.row (by omega)
    obtain ⟨a1, c1, s1, sv1, s2, hcs, rfl, hA1⟩ := hkp.get hil
    refine SP_open (by first | exact P0 | exact P1 | exact P2 | exact P3 | exact P4 | exact P5 | exact P6 | exact P7 | exact P8 | exact P9 | exact P10 | exact P11 | exact P12 | exact P13 | exact P14 | exact P15 | exact P16 | exact P17 | exact P18 | exact P19 | exact P20 | exact P21 | exact P22 | exact P23) ?_
    simp only [List.cons_append, List.nil_append]
    have hcl : i < cs.length := by rw [hkp.len]; exact hil
    have hk6 := hb6 _ (List.getElem_mem hil)
    refine SP_region ?_
    refine SPL_y (y_assign rfl) rfl ?_
    refine SPL_nil ?_
    refine thenP_n ?_
    refine SP_block ?_
    refine SP_loop (G := Nat) (fun j => h.kept[i] - j) (fun j => [(0, .pointer (some ⟨b, 0, none⟩)), (1, I imq), (2, .slice va args.length vc), (8, I (i : Nat)), (9, I (j : Nat))]) (fun _ => [blk b 138 [S h.s, S h.trace, I h.k, .slice (some ⟨kb, 0, none⟩) h.kept.length kc], blk kb 35 (cs ++ ksp), s1, sv1, s2, sv]) (fun j => j ≤ h.kept[i]) (0) (Nat.zero_le _) (by repeat (first | exact Sub.nil _ | refine Sub.cons rfl ?_)) (by repeat (first | exact Part.nil _ | (apply Part.cons; (first | exact P0 | exact P1 | exact P2 | exact P3 | exact P4 | exact P5 | exact P6 | exact P7 | exact P8 | exact P9 | exact P10 | exact P11 | exact P12 | exact P13 | exact P14 | exact P15 | exact P16 | exact P17 | exact P18 | exact P19 | exact P20 | exact P21 | exact P22 | exact P23)) | (apply Part.flat; simp only [List.cons_append, List.nil_append]) | (apply Part.nilc))) ?_
    rintro j hj
    refine SP_seq ?_
    refine SP_seq ?_
    refine SP_region ?_
    refine SPL_y (y_move rfl) rfl ?_
    refine SPL_y (y_move rfl) rfl ?_
    refine SPL_y (y_nil rfl) rfl ?_
    refine SPL_y (y_fa fld_138_3 rfl) rfl ?_
    refine SPL_y (y_load Tryz.isAgg136 rfl (by repeat (first | exact Cell.head rfl | apply Cell.tail))) rfl ?_
    refine SPL_y (y_move rfl) rfl ?_
    refine SPL_y (y_ia Tryz.underlying136 Tryz.sizeOf35 rfl rfl (by omega)) rfl ?_
    refine SPL_y (y_load Tryz.isAgg35 rfl (by repeat (first | exact Cell.head (show (cs ++ ksp)[0 + ((i : Nat) : Int).toNat * 1]? = some (.slice a1 h.kept[i] c1) by rw [show 0 + ((i : Nat) : Int).toNat * 1 = i by omega, List.getElem?_append_left hcl]; exact hcs) | apply Cell.tail))) rfl ?_
    refine SPL_y (y_len_l Tryz.underlying35 rfl) rfl ?_
    refine SPL_ifn (y_lss rfl rfl) rfl ?_ ?_
    · intro h9_9
      refine SPL_nil ?_
      refine thenP_n ?_
      refine SP_cond_f rfl ?_
      refine SP_exit ?_
      refine thenP_exit ?_
      refine thenP_exit ?_
      refine inBlockP_hit ?_
      refine inBlockP_n ?_
      refine thenP_n ?_
      refine SP_region ?_
      refine SPL_y (y_move rfl) rfl ?_
      refine SPL_y (y_add rfl rfl (by omega)) rfl ?_
      refine SPL_y (y_assign rfl) rfl ?_
      refine SPL_nil ?_
      refine thenP_n ?_
      exact Again.intro (i + 1) (by omega) (by omega) (by repeat (first | exact Sub.nil _ | refine Sub.cons rfl ?_)) (by repeat (first | exact Part.nil _ | (apply Part.cons; (first | exact P0 | exact P1 | exact P2 | exact P3 | exact P4 | exact P5 | exact P6 | exact P7 | exact P8 | exact P9 | exact P10 | exact P11 | exact P12 | exact P13 | exact P14 | exact P15 | exact P16 | exact P17 | exact P18 | exact P19 | exact P20 | exact P21 | exact P22 | exact P23)) | (apply Part.flat; simp only [List.cons_append, List.nil_append]) | (apply Part.nilc)))
    intro h9_9
    refine SPL_nil ?_
    refine thenP_n ?_
    refine SP_cond_t rfl ?_
    refine SP_skip ?_
    refine thenP_n ?_
    refine SP_seq ?_
    refine SP_block ?_
    refine SP_seq ?_
    have hjl : j < h.kept[i] := by omega
    obtain ⟨wb, wsp, rfl, hwc, hwsp, rfl⟩ := hA1.row (by omega)
    refine SP_region ?_
    refine SPL_y (y_move rfl) rfl ?_
    refine SPL_y (y_nil rfl) rfl ?_
    refine SPL_y (y_fa fld_138_3 rfl) rfl ?_
    refine SPL_y (y_load Tryz.isAgg136 rfl (by repeat (first | exact Cell.head rfl | apply Cell.tail))) rfl ?_
    refine SPL_y (y_move rfl) rfl ?_
    refine SPL_y (y_ia Tryz.underlying136 Tryz.sizeOf35 rfl rfl (by omega)) rfl ?_
    refine SPL_y (y_load Tryz.isAgg35 rfl (by repeat (first | exact Cell.head (show (cs ++ ksp)[0 + ((i : Nat) : Int).toNat * 1]? = some (.slice (some ⟨wb, 0, none⟩) h.kept[i] c1) by rw [show 0 + ((i : Nat) : Int).toNat * 1 = i by omega, List.getElem?_append_left hcl]; exact hcs) | apply Cell.tail))) rfl ?_
    refine SPL_y (y_move rfl) rfl ?_
    refine SPL_y (y_ia Tryz.underlying35 Tryz.sizeOf110 rfl rfl (by omega)) rfl ?_
    refine SPL_y (y_fa fld_110_0 rfl) rfl ?_
    refine SPL_y (y_load Tryz.isAgg5 rfl (by repeat (first | exact Cell.head (scrib_get hjl wsp) | apply Cell.tail))) rfl ?_
    refine SPL_if (y_neq rfl rfl) rfl ?_ ?_
    · intro h11_11
      exact absurd rfl h11_11
    intro h11_11
    refine SPL_nil ?_
    refine thenP_n ?_
    refine SP_cond_f rfl ?_
    refine SP_skip ?_
    refine inBlockP_n ?_
    refine thenP_n ?_
    refine SP_region ?_
    refine SPL_y (y_move rfl) rfl ?_
    refine SPL_y (y_add rfl rfl (by omega)) rfl ?_
    refine SPL_y (y_assign rfl) rfl ?_
    refine SPL_nil ?_
    refine thenP_n ?_
    exact Again.intro (j + 1) (by omega) (by omega) (by repeat (first | exact Sub.nil _ | refine Sub.cons rfl ?_)) (by repeat (first | exact Part.nil _ | (apply Part.cons; (first | exact P0 | exact P1 | exact P2 | exact P3 | exact P4 | exact P5 | exact P6 | exact P7 | exact P8 | exact P9 | exact P10 | exact P11 | exact P12 | exact P13 | exact P14 | exact P15 | exact P16 | exact P17 | exact P18 | exact P19 | exact P20 | exact P21 | exact P22 | exact P23)) | (apply Part.flat; simp only [List.cons_append, List.nil_append]) | (apply Part.nilc)))
  intro h6_6
  refine SPL_nil ?_
  refine thenP_n ?_
  refine SP_cond_f rfl ?_
  refine SP_exit ?_
  refine thenP_exit ?_
  refine thenP_exit ?_
  refine inBlockP_hit ?_
  refine thenP_n ?_
  refine SP_seq ?_
  refine SP_region ?_
  refine SPL_y (y_move rfl) rfl ?_
  refine SPL_y (y_move rfl) rfl ?_
  refine SPL_y (y_nil rfl) rfl ?_
  refine SPL_y (y_fa fld_138_1 rfl) rfl ?_
  refine SPL_y (y_load Tryz.isAgg9 rfl (by repeat (first | exact Cell.head rfl | apply Cell.tail))) rfl ?_
  refine SPL_y (y_cat rfl rfl (by first | omega | (simp; omega))) rfl ?_
  refine SPL_y (y_move rfl) rfl ?_
  refine SPL_one rfl (SP1_call (api_Num (h.trace ++ [104]) imq (by simp; omega) (by omega) (by omega)) Tryz.call41 rfl rfl (by repeat (first | exact Part.nil _ | (apply Part.cons; (first | exact P0 | exact P1 | exact P2 | exact P3 | exact P4 | exact P5 | exact P6 | exact P7 | exact P8 | exact P9 | exact P10 | exact P11 | exact P12 | exact P13 | exact P14 | exact P15 | exact P16 | exact P17 | exact P18 | exact P19 | exact P20 | exact P21 | exact P22 | exact P23)) | (apply Part.flat; simp only [List.cons_append, List.nil_append]) | (apply Part.nilc))) ?_)
  rintro v post H' ⟨rfl, rfl⟩ hH
  try simp only [List.cons_append, List.nil_append] at hH
  subst hH
  refine SPL_y (y_nil rfl) rfl ?_
  refine SPL_y (y_fa fld_138_1 rfl) rfl ?_
  refine SPL_one rfl (SP1_store Tryz.sizeOf9 rfl rfl rfl (by first | exact U0 | exact U1 | exact U2 | exact U3 | exact U4 | exact U5 | exact U6 | exact U7 | exact U8 | exact U9 | exact U10 | exact U11 | exact U12 | exact U13 | exact U14 | exact U15 | exact U16 | exact U17 | exact U18 | exact U19 | exact U20 | exact U21 | exact U22 | exact U23) (by rfl) ?_)
  refine SPL_nil ?_
  refine thenP_n ?_
  refine SP_seq ?_
  refine SP_region ?_
  refine SPL_y (y_move rfl) rfl ?_
  refine SPL_y (y_move rfl) rfl ?_
  refine SPL_y (y_nil rfl) rfl ?_
  refine SPL_y (y_fa fld_138_1 rfl) rfl ?_
  refine SPL_y (y_load Tryz.isAgg9 rfl (by repeat (first | exact Cell.head rfl | apply Cell.tail))) rfl ?_
  refine SPL_y (y_move rfl) rfl ?_
  refine SPL_one rfl (SP1_call (api_Vals (num (h.trace ++ [104]) imq) va vc args sv ha (by have := num_len (h.trace ++ [104]) imq; simp at this; omega) (by omega) hr) Tryz.call60 rfl rfl (by repeat (first | exact Part.nil _ | (apply Part.cons; (first | exact P0 | exact P1 | exact P2 | exact P3 | exact P4 | exact P5 | exact P6 | exact P7 | exact P8 | exact P9 | exact P10 | exact P11 | exact P12 | exact P13 | exact P14 | exact P15 | exact P16 | exact P17 | exact P18 | exact P19 | exact P20 | exact P21 | exact P22 | exact P23)) | (apply Part.flat; simp only [List.cons_append, List.nil_append]) | (apply Part.nilc))) ?_)
  rintro v post H' ⟨rfl, rfl⟩ hH
  try simp only [List.cons_append, List.nil_append] at hH
  subst hH
  refine SPL_y (y_nil rfl) rfl ?_
  refine SPL_y (y_fa fld_138_1 rfl) rfl ?_
  refine SPL_one rfl (SP1_store Tryz.sizeOf9 rfl rfl rfl (by first | exact U0 | exact U1 | exact U2 | exact U3 | exact U4 | exact U5 | exact U6 | exact U7 | exact U8 | exact U9 | exact U10 | exact U11 | exact U12 | exact U13 | exact U14 | exact U15 | exact U16 | exact U17 | exact U18 | exact U19 | exact U20 | exact U21 | exact U22 | exact U23) (by rfl) ?_)
  rw [show num (h.trace ++ [104]) imq ++ valsS args = h.trace ++ [104] ++ numS imq ++ valsS args from rfl]
  refine SPL_nil ?_
  refine thenP_n ?_
  refine SP_seq ?_
  refine SP_seq ?_
  refine SP_region ?_
  refine SPL_y (y_assign rfl) rfl ?_
  refine SPL_nil ?_
  refine thenP_n ?_
  refine SP_block ?_
  refine SP_loop (G := Nat × Seg) (fun g => args.length - g.1) (fun g => [(0, .pointer (some ⟨b, 0, none⟩)), (1, I imq), (2, .slice va args.length vc), (10, I (g.1 : Nat))]) (fun g => [blk b 138 [S h.s, S (h.trace ++ [104] ++ numS imq ++ valsS args), I h.k, .slice ka h.kept.length kc], sk, sr, g.2]) (fun g => g.1 ≤ args.length ∧ Arr 110 2 va args.length vc ((List.replicate g.1 scrib).flatten ++ (args.drop g.1).flatMap valV) g.2) (⟨0, sv⟩) (⟨Nat.zero_le _, ha⟩) (by repeat (first | exact Sub.nil _ | refine Sub.cons rfl ?_)) (by repeat (first | exact Part.nil _ | (apply Part.cons; (first | exact P0 | exact P1 | exact P2 | exact P3 | exact P4 | exact P5 | exact P6 | exact P7 | exact P8 | exact P9 | exact P10 | exact P11 | exact P12 | exact P13 | exact P14 | exact P15 | exact P16 | exact P17 | exact P18 | exact P19 | exact P20 | exact P21 | exact P22 | exact P23)) | (apply Part.flat; simp only [List.cons_append, List.nil_append]) | (apply Part.nilc))) ?_
  rintro ⟨j, sv⟩ ⟨hj, ha⟩
  dsimp only at hj ha ⊢
  refine SP_seq ?_
  refine SP_seq ?_
  refine SP_region ?_
  refine SPL_y (y_move rfl) rfl ?_
  refine SPL_y (y_move rfl) rfl ?_
  refine SPL_y (y_len_l Tryz.underlying35 rfl) rfl ?_
  refine SPL_if (y_lss rfl rfl) rfl ?_ ?_
  · intro h16_3
    refine SPL_nil ?_
    refine thenP_n ?_
    refine SP_cond_t rfl ?_
    refine SP_skip ?_
    refine thenP_n ?_
    refine SP_seq ?_
    refine SP_block ?_
    obtain ⟨vb, vsp, rfl, hvc, hvsp, rfl⟩ := ha.row (by omega)
    refine SP_region ?_
    refine SPL_y (y_move rfl) rfl ?_
    refine SPL_y (y_move rfl) rfl ?_
    refine SPL_y (y_build B110 rfl rfl (by simp only [fillL, List.foldl_cons, List.foldl_nil, List.set_cons_zero, List.set_cons_succ]; exact rfl)) rfl ?_
    refine SPL_y (y_ia Tryz.underlying35 Tryz.sizeOf110 rfl rfl (by omega)) rfl ?_
    refine SPL_one rfl (SP1_stores (vs := scrib) (l' := (List.replicate (j + 1) scrib).flatten ++ (args.drop (j + 1)).flatMap valV ++ vsp) Tryz.sizeOf110 rfl rfl rfl rfl (by simp [scrib]; exact ⟨rfl, rfl⟩) (by first | exact U0 | exact U1 | exact U2 | exact U3 | exact U4 | exact U5 | exact U6 | exact U7 | exact U8 | exact U9 | exact U10 | exact U11 | exact U12 | exact U13 | exact U14 | exact U15 | exact U16 | exact U17 | exact U18 | exact U19 | exact U20 | exact U21 | exact U22 | exact U23) (by simp only [List.length_append, scrib_len, flat_len valV_len, List.length_drop]; simp only [scrib, List.length_cons, List.length_nil]; omega) (scrib_put (show j < args.length by omega)).symm ?_)
    refine SPL_nil ?_
    refine inBlockP_n ?_
    refine thenP_n ?_
    refine SP_region ?_
    refine SPL_y (y_move rfl) rfl ?_
    refine SPL_y (y_add rfl rfl (by omega)) rfl ?_
    refine SPL_y (y_assign rfl) rfl ?_
    refine SPL_nil ?_
    refine thenP_n ?_
    have hA2 : Arr 110 2 (some ⟨vb, 0, none⟩) args.length vc ((List.replicate (j + 1) scrib).flatten ++ (args.drop (j + 1)).flatMap valV) (blk vb 110 ((List.replicate (j + 1) scrib).flatten ++ (args.drop (j + 1)).flatMap valV ++ vsp)) := Arr.mk (by rw [List.length_append, scrib_len, flat_len valV_len, List.length_drop]; omega) hvc hvsp
    exact Again.intro (⟨j + 1, _⟩) (⟨by dsimp only; omega, hA2⟩) (by dsimp only; omega) (by repeat (first | exact Sub.nil _ | refine Sub.cons rfl ?_)) (by repeat (first | exact Part.nil _ | (apply Part.cons; (first | exact P0 | exact P1 | exact P2 | exact P3 | exact P4 | exact P5 | exact P6 | exact P7 | exact P8 | exact P9 | exact P10 | exact P11 | exact P12 | exact P13 | exact P14 | exact P15 | exact P16 | exact P17 | exact P18 | exact P19 | exact P20 | exact P21 | exact P22 | exact P23)) | (apply Part.flat; simp only [List.cons_append, List.nil_append]) | (apply Part.nilc)))
  intro h16_3
  refine SPL_nil ?_
  refine thenP_n ?_
  refine SP_cond_f rfl ?_
  refine SP_exit ?_
  refine thenP_exit ?_
  refine thenP_exit ?_
  refine inBlockP_hit ?_
  refine thenP_n ?_
  refine SP_seq ?_
  refine SP_region ?_
  refine SPL_y (y_move rfl) rfl ?_
  refine SPL_y (y_nil rfl) rfl ?_
  refine SPL_y (y_fa fld_138_3 rfl) rfl ?_
  refine SPL_y (y_load Tryz.isAgg136 rfl (by repeat (first | exact Cell.head rfl | apply Cell.tail))) rfl ?_
  refine SPL_y (y_move rfl) rfl ?_
  refine SPL_one rfl (SP1_slice1 el_136 rfl rfl rfl rfl rfl ?_)
  intro b99
  refine SPL_one rfl (SP1_append el_136 (.inl Tryz.underlying136) rfl rfl hkr (by first | exact P0 | exact P1 | exact P2 | exact P3 | exact P4 | exact P5 | exact P6 | exact P7 | exact P8 | exact P9 | exact P10 | exact P11 | exact P12 | exact P13 | exact P14 | exact P15 | exact P16 | exact P17 | exact P18 | exact P19 | exact P20 | exact P21 | exact P22 | exact P23) (Src.of (by repeat (first | exact Cells.all _ | exact Cells.head rfl | apply Cells.tail)) (by rfl)) (by rfl) (by omega) rfl ?_)
  intro ka2 kc2 sk2 hkr2
  refine SPL_y (y_assign rfl) rfl ?_
  refine SPL_nil ?_
  refine thenP_n ?_
  refine SP_seq ?_
  refine SP_region ?_
  refine SPL_y (y_move rfl) rfl ?_
  refine SPL_y (y_move rfl) rfl ?_
  refine SPL_y (y_nil rfl) rfl ?_
  refine SPL_y (y_fa fld_138_3 rfl) rfl ?_
  refine SPL_one rfl (SP1_store Tryz.sizeOf136 rfl rfl rfl (by first | exact U0 | exact U1 | exact U2 | exact U3 | exact U4 | exact U5 | exact U6 | exact U7 | exact U8 | exact U9 | exact U10 | exact U11 | exact U12 | exact U13 | exact U14 | exact U15 | exact U16 | exact U17 | exact U18 | exact U19 | exact U20 | exact U21 | exact U22 | exact U23) (by rfl) ?_)
  refine SPL_nil ?_
  refine thenP_n ?_
  refine SP_seq ?_
  refine SP_draw 8 [(0, 0), (1, 0), (2, 0), (4, 0), (5, 0), (6, 0), (3, 1), (7, 1), (8, 3), (9, 0), (10, 0), (11, 0), (12, 0), (13, 0)] mixed (by kernel_rfl) (fun _ _ _ _ _ h => h) (Part.refl _) ?_
  refine SPO_p rfl (y_move rfl) rfl ?_
  refine SPO_p rfl (y_nil rfl) rfl ?_
  refine SPO_p rfl (y_fa fld_138_0 rfl) rfl ?_
  refine SPO_p rfl (y_move rfl) rfl ?_
  refine SPO_p rfl (y_nil rfl) rfl ?_
  refine SPO_p rfl (y_fa fld_138_2 rfl) rfl ?_
  refine SPO_h rfl (y_load Tryz.isAgg9 rfl (by repeat (first | exact Cell.head rfl | apply Cell.tail))) rfl ?_
  refine SPO_h rfl (y_load Tryz.isAgg3 rfl (by repeat (first | exact Cell.head rfl | apply Cell.tail))) rfl ?_
  refine SPO_z (k := 0) rfl rfl (SP1_call (runm_Answer h.s h.k hb2 hb5) Tryz.call164 rfl rfl (by repeat (first | exact Part.nil _ | (apply Part.cons; (first | exact P0 | exact P1 | exact P2 | exact P3 | exact P4 | exact P5 | exact P6 | exact P7 | exact P8 | exact P9 | exact P10 | exact P11 | exact P12 | exact P13 | exact P14 | exact P15 | exact P16 | exact P17 | exact P18 | exact P19 | exact P20 | exact P21 | exact P22 | exact P23)) | (apply Part.flat; simp only [List.cons_append, List.nil_append]) | (apply Part.nilc))) ?_)
  rintro v post H' ⟨aa, ac, asv, rfl, rfl, hAns⟩ hH
  try simp only [List.cons_append, List.nil_append] at hH
  subst hH
  refine SPO_p rfl (y_move rfl) rfl ?_
  refine SPO_p rfl (y_ext rfl rfl) rfl ?_
  refine SPO_p rfl (y_ext rfl rfl) rfl ?_
  refine SPO_p rfl (y_assign rfl) rfl ?_
  refine SPO_p rfl (y_assign rfl) rfl ?_
  refine SPO_nil ?_
  refine thenP_n ?_
  refine SP_seq ?_
  refine SP_region ?_
  refine SPL_y (y_move rfl) rfl ?_
  refine SPL_y (y_nil rfl) rfl ?_
  refine SPL_y (y_fa fld_138_2 rfl) rfl ?_
  refine SPL_y (y_load Tryz.isAgg3 rfl (by repeat (first | exact Cell.head rfl | apply Cell.tail))) rfl ?_
  refine SPL_y (y_add rfl rfl (by omega)) rfl ?_
  refine SPL_y (y_nil rfl) rfl ?_
  refine SPL_y (y_fa fld_138_2 rfl) rfl ?_
  refine SPL_one rfl (SP1_store Tryz.sizeOf3 rfl rfl rfl (by first | exact U0 | exact U1 | exact U2 | exact U3 | exact U4 | exact U5 | exact U6 | exact U7 | exact U8 | exact U9 | exact U10 | exact U11 | exact U12 | exact U13 | exact U14 | exact U15 | exact U16 | exact U17 | exact U18 | exact U19 | exact U20 | exact U21 | exact U22 | exact U23) (by rfl) ?_)
  refine SPL_nil ?_
  refine thenP_n ?_
  refine SP_seq ?_
  refine SP_seq ?_
  refine SP_region ?_
  refine SPL_y (y_move rfl) rfl ?_
  refine SPL_if (y_eql rfl rfl) rfl ?_ ?_
  · intro h23_1
    refine SPL_nil ?_
    refine thenP_n ?_
    refine SP_cond_t rfl ?_
    refine SP_seq ?_
    refine SP_region ?_
    refine SPL_y (y_move rfl) rfl ?_
    refine SPL_y (y_assign rfl) rfl ?_
    refine SPL_y (y_assign rfl) rfl ?_
    refine SPL_nil ?_
    refine thenP_n ?_
    refine SP_ret ?_
    refine thenP_ret (bodyP_ret (H' := [List.flatten [blk b 138 [S h.s, S (h.trace ++ [104] ++ numS imq ++ valsS args), I ((h.k : Int) + 1), .slice ka2 (h.kept.length + 1) kc2], sk2, List.flatten [sr, sv]], asv]) (Res2 rfl rfl rfl) (by repeat (first | exact Part.nil _ | (apply Part.cons; (first | exact P0 | exact P1 | exact P2 | exact P3 | exact P4 | exact P5 | exact P6 | exact P7 | exact P8 | exact P9 | exact P10 | exact P11 | exact P12 | exact P13 | exact P14 | exact P15 | exact P16 | exact P17 | exact P18 | exact P19 | exact P20 | exact P21 | exact P22 | exact P23)) | (apply Part.flat; simp only [List.cons_append, List.nil_append]) | (apply Part.nilc))) ?_)
    obtain rfl : j = args.length := by omega
    rw [List.drop_length, List.flatMap_nil, List.append_nil] at ha
    rw [host_go hk0 (by omega)]
    dsimp only
    rw [if_pos (show (answer h.s h.k).2 = 0 from h23_1), if_pos (show (answer h.s h.k).2 = 0 from h23_1)]
    exact ⟨aa, ac, _, _, rfl, rfl, tape_next hkr2 hkp ha, hAns⟩
  intro h23_1
  refine SPL_nil ?_
  refine thenP_n ?_
  refine SP_cond_f rfl ?_
  refine SP_skip ?_
  refine thenP_n ?_
  refine SP_seq ?_
  refine SP_seq ?_
  refine SP_draw 999 [(0, 0), (1, 0), (2, 0), (3, 0), (4, 0), (5, 0), (6, 1), (7, 0), (8, 0), (9, 0), (10, 0), (11, 0), (14, 0), (15, 0), (16, 0), (12, 1), (13, 0), (17, 1), (18, 0), (19, 0), (20, 0), (21, 0)] mixed (by kernel_rfl) (fun _ _ _ _ _ h => h) (Part.refl _) ?_
  refine SPO_p rfl (y_move rfl) rfl ?_
  refine SPO_ifn rfl (y_eql rfl rfl) rfl ?_ ?_
  · intro h25_1
    refine SPO_p rfl (y_move rfl) rfl ?_
    refine SPO_gn (.inl rfl) rfl rfl rfl rfl rfl ?_
    refine SPO_gn (.inl rfl) rfl rfl rfl rfl rfl ?_
    refine SPO_gn (.inl rfl) rfl rfl rfl rfl rfl ?_
    refine SPO_gn (.inr rfl) rfl rfl rfl rfl rfl ?_
    refine SPO_gn (.inl rfl) rfl rfl rfl rfl rfl ?_
    refine SPO_gn (.inl rfl) rfl rfl rfl rfl rfl ?_
    refine SPO_gu (.inl rfl) rfl rfl rfl rfl ?_
    refine SPO_gu (.inl rfl) rfl rfl rfl rfl ?_
    refine SPO_gu (.inl rfl) rfl rfl rfl rfl ?_
    refine SPO_gu (.inl rfl) rfl rfl rfl rfl ?_
    refine SPO_gu (.inl rfl) rfl rfl rfl rfl ?_
    refine SPO_gu (.inl rfl) rfl rfl rfl rfl ?_
    refine SPO_gu (.inr rfl) rfl rfl rfl rfl ?_
    refine SPO_gu (.inl rfl) rfl rfl rfl rfl ?_
    refine SPO_gu (.inr rfl) rfl rfl rfl rfl ?_
    refine SPO_gu (.inl rfl) rfl rfl rfl rfl ?_
    refine SPO_gu (.inl rfl) rfl rfl rfl rfl ?_
    refine SPO_gn (.inl rfl) rfl rfl rfl rfl rfl ?_
    refine SPO_p rfl (y_pick_f rfl rfl) rfl ?_
    refine SPO_nil ?_
    refine thenP_n ?_
    refine SP_cond_f rfl ?_
    refine SP_skip ?_
    refine thenP_n ?_
    refine SP_seq ?_
    refine SP_seq ?_
    have hIn : ¬ (6 ≤ h.k ∨ h.s.length ≤ 2 * h.k + 1) := by
      intro hx
      have : (answer h.s h.k).2 = 16 := by unfold answer; rw [if_pos hx]
      omega
    refine SP_draw 999 [(0, 0), (1, 0), (2, 0), (4, 0), (5, 0), (6, 0), (3, 1), (7, 1), (8, 0), (9, 0), (10, 0)] mixed (by kernel_rfl) (fun _ _ _ _ _ h => h) (Part.refl _) ?_
    refine SPO_p rfl (y_move rfl) rfl ?_
    refine SPO_p rfl (y_nil rfl) rfl ?_
    refine SPO_p rfl (y_fa fld_138_0 rfl) rfl ?_
    refine SPO_p rfl (y_move rfl) rfl ?_
    refine SPO_p rfl (y_nil rfl) rfl ?_
    refine SPO_p rfl (y_fa fld_138_2 rfl) rfl ?_
    refine SPO_h rfl (y_load Tryz.isAgg9 rfl (by repeat (first | exact Cell.head rfl | apply Cell.tail))) rfl ?_
    refine SPO_h rfl (y_load Tryz.isAgg3 rfl (by repeat (first | exact Cell.head rfl | apply Cell.tail))) rfl ?_
    refine SPO_p rfl (y_mul rfl rfl (by omega)) rfl ?_
    refine SPO_p rfl (y_sub rfl rfl (by omega)) rfl ?_
    refine SPO_p rfl (y_idx_s Tryz.underlying9 rfl rfl (by omega) (c := h.s.getD (2 * h.k) 0) (by rw [List.getD_eq_getElem?_getD, show (2 * ((h.k : Int) + 1) - 2).toNat = 2 * h.k by omega, List.getElem?_eq_getElem (by omega)]; rfl)) rfl ?_
    refine SPO_nil ?_
    refine thenP_n ?_
    refine SP_block ?_
    refine SP_seq ?_
    refine SP_region ?_
    refine SPL_if (y_eql rfl rfl) rfl ?_ ?_
    · intro h28_0
      refine SPL_y (y_assign rfl) rfl ?_
      refine SPL_nil ?_
      refine thenP_n ?_
      refine SP_cond_t rfl ?_
      refine SP_seq ?_
      refine SP_draw 999 [(0, 0), (1, 0), (2, 0), (4, 0), (5, 0), (6, 0), (14, 0), (3, 1), (7, 1), (8, 0), (9, 0), (10, 0), (11, 0), (12, 0), (13, 0), (15, 0)] mixed (by kernel_rfl) (fun _ _ _ _ _ h => h) (Part.refl _) ?_
      refine SPO_p rfl (y_move rfl) rfl ?_
      refine SPO_p rfl (y_nil rfl) rfl ?_
      refine SPO_p rfl (y_fa fld_138_0 rfl) rfl ?_
      refine SPO_p rfl (y_move rfl) rfl ?_
      refine SPO_p rfl (y_nil rfl) rfl ?_
      refine SPO_p rfl (y_fa fld_138_2 rfl) rfl ?_
      refine SPO_p rfl (y_assign rfl) rfl ?_
      refine SPO_h rfl (y_load Tryz.isAgg9 rfl (by repeat (first | exact Cell.head rfl | apply Cell.tail))) rfl ?_
      refine SPO_h rfl (y_load Tryz.isAgg3 rfl (by repeat (first | exact Cell.head rfl | apply Cell.tail))) rfl ?_
      refine SPO_p rfl (y_mul rfl rfl (by omega)) rfl ?_
      refine SPO_p rfl (y_sub rfl rfl (by omega)) rfl ?_
      refine SPO_p rfl (y_idx_s Tryz.underlying9 rfl rfl (by omega) (c := h.s.getD (2 * h.k + 1) 0) (by rw [List.getD_eq_getElem?_getD, show (2 * ((h.k : Int) + 1) - 1).toNat = 2 * h.k + 1 by omega, List.getElem?_eq_getElem (by omega)]; rfl)) rfl ?_
      refine SPO_p rfl (y_conv Tryz.underlying5 Tryz.underlying154 rfl rfl) rfl ?_
      refine SPO_p rfl (y_conv Tryz.underlying154 Tryz.underlying51 rfl rfl) rfl ?_
      refine SPO_p rfl (y_mki Tryz.underlying51 rfl rfl) rfl ?_
      refine SPO_p rfl (y_assign rfl) rfl ?_
      refine SPO_nil ?_
      refine thenP_n ?_
      refine SP_ret ?_
      refine inBlockP_ret (thenP_ret (bodyP_ret (H' := [List.flatten [blk b 138 [S h.s, S (h.trace ++ [104] ++ numS imq ++ valsS args), I ((h.k : Int) + 1), .slice ka2 (h.kept.length + 1) kc2], sk2, List.flatten [sr, sv]], []]) (Res2 rfl rfl rfl) (by repeat (first | exact Part.nil _ | (apply Part.cons; (first | exact P0 | exact P1 | exact P2 | exact P3 | exact P4 | exact P5 | exact P6 | exact P7 | exact P8 | exact P9 | exact P10 | exact P11 | exact P12 | exact P13 | exact P14 | exact P15 | exact P16 | exact P17 | exact P18 | exact P19 | exact P20 | exact P21 | exact P22 | exact P23)) | (apply Part.flat; simp only [List.cons_append, List.nil_append]) | (apply Part.nilc))) ?_))
      obtain rfl : j = args.length := by omega
      rw [List.drop_length, List.flatMap_nil, List.append_nil] at ha
      rw [host_go hk0 (by omega)]
      dsimp only
      rw [if_neg (show ¬ (answer h.s h.k).2 = 0 from h23_1), if_neg (show ¬ (answer h.s h.k).2 = 0 from h23_1), if_neg (by omega), if_pos (by omega)]
      exact ⟨none, 0, _, _, rfl, rfl, tape_next hkr2 hkp ha, rfl, .inl ⟨rfl, rfl, rfl, rfl⟩⟩
    intro h28_0
    refine SPL_y (y_assign rfl) rfl ?_
    refine SPL_nil ?_
    refine thenP_n ?_
    refine SP_cond_f rfl ?_
    refine SP_seq ?_
    refine SP_region ?_
    refine SPL_if (y_eql rfl rfl) rfl ?_ ?_
    · intro h30_0
      refine SPL_y (y_assign rfl) rfl ?_
      refine SPL_nil ?_
      refine thenP_n ?_
      refine SP_cond_t rfl ?_
      refine SP_seq ?_
      refine SP_region ?_
      refine SPL_y (y_mki Tryz.underlying51 rfl rfl) rfl ?_
      refine SPL_y (y_build B305 rfl rfl (by simp only [fillL, List.foldl_cons, List.foldl_nil, List.set_cons_zero, List.set_cons_succ]; exact rfl)) rfl ?_
      refine SPL_y (y_mki Tryz.underlying305 rfl rfl) rfl ?_
      refine SPL_y (y_assign rfl) rfl ?_
      refine SPL_y (y_assign rfl) rfl ?_
      refine SPL_nil ?_
      refine thenP_n ?_
      refine SP_ret ?_
      refine inBlockP_ret (thenP_ret (bodyP_ret (H' := [List.flatten [blk b 138 [S h.s, S (h.trace ++ [104] ++ numS imq ++ valsS args), I ((h.k : Int) + 1), .slice ka2 (h.kept.length + 1) kc2], sk2, List.flatten [sr, sv]], []]) (Res2 rfl rfl rfl) (by repeat (first | exact Part.nil _ | (apply Part.cons; (first | exact P0 | exact P1 | exact P2 | exact P3 | exact P4 | exact P5 | exact P6 | exact P7 | exact P8 | exact P9 | exact P10 | exact P11 | exact P12 | exact P13 | exact P14 | exact P15 | exact P16 | exact P17 | exact P18 | exact P19 | exact P20 | exact P21 | exact P22 | exact P23)) | (apply Part.flat; simp only [List.cons_append, List.nil_append]) | (apply Part.nilc))) ?_))
      obtain rfl : j = args.length := by omega
      rw [List.drop_length, List.flatMap_nil, List.append_nil] at ha
      rw [host_go hk0 (by omega)]
      dsimp only
      rw [if_neg (show ¬ (answer h.s h.k).2 = 0 from h23_1), if_neg (show ¬ (answer h.s h.k).2 = 0 from h23_1), if_neg (by omega), if_neg (by omega), if_pos (by omega)]
      exact ⟨none, 0, _, _, rfl, rfl, tape_next hkr2 hkp ha, rfl, .inl ⟨rfl, rfl, rfl, rfl⟩⟩
    intro h30_0
    refine SPL_y (y_assign rfl) rfl ?_
    refine SPL_nil ?_
    refine thenP_n ?_
    refine SP_cond_f rfl ?_
    refine SP_skip ?_
    refine inBlockP_n ?_
    refine thenP_n ?_
    refine SP_seq ?_
    refine SP_region ?_
    refine SPL_y (y_build B303 rfl rfl (by simp only [fillL, List.foldl_cons, List.foldl_nil, List.set_cons_zero, List.set_cons_succ]; exact rfl)) rfl ?_
    refine SPL_y (y_mki Tryz.underlying303 rfl rfl) rfl ?_
    refine SPL_y (y_assign rfl) rfl ?_
    refine SPL_y (y_assign rfl) rfl ?_
    refine SPL_nil ?_
    refine thenP_n ?_
    refine SP_ret ?_
    refine bodyP_ret (H' := [List.flatten [blk b 138 [S h.s, S (h.trace ++ [104] ++ numS imq ++ valsS args), I ((h.k : Int) + 1), .slice ka2 (h.kept.length + 1) kc2], sk2, List.flatten [sr, sv]], []]) (Res2 rfl rfl rfl) (by repeat (first | exact Part.nil _ | (apply Part.cons; (first | exact P0 | exact P1 | exact P2 | exact P3 | exact P4 | exact P5 | exact P6 | exact P7 | exact P8 | exact P9 | exact P10 | exact P11 | exact P12 | exact P13 | exact P14 | exact P15 | exact P16 | exact P17 | exact P18 | exact P19 | exact P20 | exact P21 | exact P22 | exact P23)) | (apply Part.flat; simp only [List.cons_append, List.nil_append]) | (apply Part.nilc))) ?_
    obtain rfl : j = args.length := by omega
    rw [List.drop_length, List.flatMap_nil, List.append_nil] at ha
    rw [host_go hk0 (by omega)]
    dsimp only
    rw [if_neg (show ¬ (answer h.s h.k).2 = 0 from h23_1), if_neg (show ¬ (answer h.s h.k).2 = 0 from h23_1), if_neg (by omega), if_neg (by omega), if_neg (by omega)]
    exact ⟨none, 0, _, _, rfl, rfl, tape_next hkr2 hkp ha, rfl, .inl ⟨rfl, rfl, rfl, rfl⟩⟩
  intro h25_1
  refine SPO_p rfl (y_move rfl) rfl ?_
  refine SPO_py rfl rfl rfl (y_move rfl) rfl ?_
  refine SPO_py rfl rfl rfl (y_nil rfl) rfl ?_
  refine SPO_py rfl rfl rfl (y_fa fld_138_2 rfl) rfl ?_
  refine SPO_hy rfl rfl rfl (y_load Tryz.isAgg3 rfl (by repeat (first | exact Cell.head rfl | apply Cell.tail))) rfl ?_
  refine SPO_pyif rfl rfl rfl (y_gtr rfl rfl) rfl ?_ ?_
  · intro h25_7
    refine SPO_py rfl rfl rfl (y_move rfl) rfl ?_
    refine SPO_gn (.inl rfl) rfl rfl rfl rfl rfl ?_
    refine SPO_gn (.inl rfl) rfl rfl rfl rfl rfl ?_
    refine SPO_gn (.inl rfl) rfl rfl rfl rfl rfl ?_
    refine SPO_gn (.inl rfl) rfl rfl rfl rfl rfl ?_
    refine SPO_gn (.inl rfl) rfl rfl rfl rfl rfl ?_
    refine SPO_gn (.inl rfl) rfl rfl rfl rfl rfl ?_
    refine SPO_gn (.inr rfl) rfl rfl rfl rfl rfl ?_
    refine SPO_gn (.inl rfl) rfl rfl rfl rfl rfl ?_
    refine SPO_gn (.inr rfl) rfl rfl rfl rfl rfl ?_
    refine SPO_gn (.inl rfl) rfl rfl rfl rfl rfl ?_
    refine SPO_gn (.inl rfl) rfl rfl rfl rfl rfl ?_
    refine SPO_py rfl rfl rfl (y_pick_t rfl rfl) rfl ?_
    refine SPO_p rfl (y_pick_t rfl rfl) rfl ?_
    refine SPO_nil ?_
    refine thenP_n ?_
    refine SP_cond_t rfl ?_
    refine SP_seq ?_
    refine SP_region ?_
    refine SPL_y (y_move rfl) rfl ?_
    refine SPL_y (y_mki Tryz.underlying51 rfl rfl) rfl ?_
    refine SPL_y (y_assign rfl) rfl ?_
    refine SPL_y (y_assign rfl) rfl ?_
    refine SPL_nil ?_
    refine thenP_n ?_
    refine SP_ret ?_
    refine thenP_ret (bodyP_ret (H' := [List.flatten [blk b 138 [S h.s, S (h.trace ++ [104] ++ numS imq ++ valsS args), I ((h.k : Int) + 1), .slice ka2 (h.kept.length + 1) kc2], sk2, List.flatten [sr, sv]], []]) (Res2 rfl rfl rfl) (by repeat (first | exact Part.nil _ | (apply Part.cons; (first | exact P0 | exact P1 | exact P2 | exact P3 | exact P4 | exact P5 | exact P6 | exact P7 | exact P8 | exact P9 | exact P10 | exact P11 | exact P12 | exact P13 | exact P14 | exact P15 | exact P16 | exact P17 | exact P18 | exact P19 | exact P20 | exact P21 | exact P22 | exact P23)) | (apply Part.flat; simp only [List.cons_append, List.nil_append]) | (apply Part.nilc))) ?_)
    obtain rfl : j = args.length := by omega
    rw [List.drop_length, List.flatMap_nil, List.append_nil] at ha
    rw [host_go hk0 (by omega)]
    dsimp only
    rw [if_neg (show ¬ (answer h.s h.k).2 = 0 from h23_1), if_neg (show ¬ (answer h.s h.k).2 = 0 from h23_1), if_pos ⟨h25_1, by omega⟩]
    rw [h25_1]
    exact ⟨none, 0, _, _, rfl, rfl, tape_next hkr2 hkp ha, rfl, .inl ⟨rfl, rfl, rfl, rfl⟩⟩
  intro h25_7
  refine SPO_py rfl rfl rfl (y_move rfl) rfl ?_
  refine SPO_py rfl rfl rfl (y_move rfl) rfl ?_
  refine SPO_py rfl rfl rfl (y_nil rfl) rfl ?_
  refine SPO_py rfl rfl rfl (y_fa fld_138_2 rfl) rfl ?_
  refine SPO_py rfl rfl rfl (y_move rfl) rfl ?_
  refine SPO_py rfl rfl rfl (y_nil rfl) rfl ?_
  refine SPO_py rfl rfl rfl (y_fa fld_138_0 rfl) rfl ?_
  refine SPO_hy rfl rfl rfl (y_load Tryz.isAgg3 rfl (by repeat (first | exact Cell.head rfl | apply Cell.tail))) rfl ?_
  refine SPO_py rfl rfl rfl (y_mul rfl rfl (by omega)) rfl ?_
  refine SPO_hy rfl rfl rfl (y_load Tryz.isAgg9 rfl (by repeat (first | exact Cell.head rfl | apply Cell.tail))) rfl ?_
  refine SPO_py rfl rfl rfl (y_len_s Tryz.underlying9 rfl) rfl ?_
  refine SPO_pyif rfl rfl rfl (y_gtr rfl rfl) rfl ?_ ?_
  · intro h25_19
    refine SPO_py rfl rfl rfl (y_pick_f rfl rfl) rfl ?_
    refine SPO_p rfl (y_pick_t rfl rfl) rfl ?_
    refine SPO_nil ?_
    refine thenP_n ?_
    refine SP_cond_t rfl ?_
    refine SP_seq ?_
    refine SP_region ?_
    refine SPL_y (y_move rfl) rfl ?_
    refine SPL_y (y_mki Tryz.underlying51 rfl rfl) rfl ?_
    refine SPL_y (y_assign rfl) rfl ?_
    refine SPL_y (y_assign rfl) rfl ?_
    refine SPL_nil ?_
    refine thenP_n ?_
    refine SP_ret ?_
    refine thenP_ret (bodyP_ret (H' := [List.flatten [blk b 138 [S h.s, S (h.trace ++ [104] ++ numS imq ++ valsS args), I ((h.k : Int) + 1), .slice ka2 (h.kept.length + 1) kc2], sk2, List.flatten [sr, sv]], []]) (Res2 rfl rfl rfl) (by repeat (first | exact Part.nil _ | (apply Part.cons; (first | exact P0 | exact P1 | exact P2 | exact P3 | exact P4 | exact P5 | exact P6 | exact P7 | exact P8 | exact P9 | exact P10 | exact P11 | exact P12 | exact P13 | exact P14 | exact P15 | exact P16 | exact P17 | exact P18 | exact P19 | exact P20 | exact P21 | exact P22 | exact P23)) | (apply Part.flat; simp only [List.cons_append, List.nil_append]) | (apply Part.nilc))) ?_)
    obtain rfl : j = args.length := by omega
    rw [List.drop_length, List.flatMap_nil, List.append_nil] at ha
    rw [host_go hk0 (by omega)]
    dsimp only
    rw [if_neg (show ¬ (answer h.s h.k).2 = 0 from h23_1), if_neg (show ¬ (answer h.s h.k).2 = 0 from h23_1), if_pos ⟨h25_1, by omega⟩]
    rw [h25_1]
    exact ⟨none, 0, _, _, rfl, rfl, tape_next hkr2 hkp ha, rfl, .inl ⟨rfl, rfl, rfl, rfl⟩⟩
  intro h25_19
  refine SPO_py rfl rfl rfl (y_pick_f rfl rfl) rfl ?_
  refine SPO_p rfl (y_pick_t rfl rfl) rfl ?_
  refine SPO_nil ?_
  refine thenP_n ?_
  refine SP_cond_f rfl ?_
  refine SP_skip ?_
  refine thenP_n ?_
  refine SP_seq ?_
  refine SP_seq ?_
  have hIn : ¬ (6 ≤ h.k ∨ h.s.length ≤ 2 * h.k + 1) := by
    intro hx
    have : (answer h.s h.k).2 = 16 := by unfold answer; rw [if_pos hx]
    omega
  refine SP_draw 999 [(0, 0), (1, 0), (2, 0), (4, 0), (5, 0), (6, 0), (3, 1), (7, 1), (8, 0), (9, 0), (10, 0)] mixed (by kernel_rfl) (fun _ _ _ _ _ h => h) (Part.refl _) ?_
  refine SPO_p rfl (y_move rfl) rfl ?_
  refine SPO_p rfl (y_nil rfl) rfl ?_
  refine SPO_p rfl (y_fa fld_138_0 rfl) rfl ?_
  refine SPO_p rfl (y_move rfl) rfl ?_
  refine SPO_p rfl (y_nil rfl) rfl ?_
  refine SPO_p rfl (y_fa fld_138_2 rfl) rfl ?_
  refine SPO_h rfl (y_load Tryz.isAgg9 rfl (by repeat (first | exact Cell.head rfl | apply Cell.tail))) rfl ?_
  refine SPO_h rfl (y_load Tryz.isAgg3 rfl (by repeat (first | exact Cell.head rfl | apply Cell.tail))) rfl ?_
  refine SPO_p rfl (y_mul rfl rfl (by omega)) rfl ?_
  refine SPO_p rfl (y_sub rfl rfl (by omega)) rfl ?_
  refine SPO_p rfl (y_idx_s Tryz.underlying9 rfl rfl (by omega) (c := h.s.getD (2 * h.k) 0) (by rw [List.getD_eq_getElem?_getD, show (2 * ((h.k : Int) + 1) - 2).toNat = 2 * h.k by omega, List.getElem?_eq_getElem (by omega)]; rfl)) rfl ?_
  refine SPO_nil ?_
  refine thenP_n ?_
  refine SP_block ?_
  refine SP_seq ?_
  refine SP_region ?_
  refine SPL_if (y_eql rfl rfl) rfl ?_ ?_
  · intro h28_0
    refine SPL_y (y_assign rfl) rfl ?_
    refine SPL_nil ?_
    refine thenP_n ?_
    refine SP_cond_t rfl ?_
    refine SP_seq ?_
    refine SP_draw 999 [(0, 0), (1, 0), (2, 0), (4, 0), (5, 0), (6, 0), (14, 0), (3, 1), (7, 1), (8, 0), (9, 0), (10, 0), (11, 0), (12, 0), (13, 0), (15, 0)] mixed (by kernel_rfl) (fun _ _ _ _ _ h => h) (Part.refl _) ?_
    refine SPO_p rfl (y_move rfl) rfl ?_
    refine SPO_p rfl (y_nil rfl) rfl ?_
    refine SPO_p rfl (y_fa fld_138_0 rfl) rfl ?_
    refine SPO_p rfl (y_move rfl) rfl ?_
    refine SPO_p rfl (y_nil rfl) rfl ?_
    refine SPO_p rfl (y_fa fld_138_2 rfl) rfl ?_
    refine SPO_p rfl (y_assign rfl) rfl ?_
    refine SPO_h rfl (y_load Tryz.isAgg9 rfl (by repeat (first | exact Cell.head rfl | apply Cell.tail))) rfl ?_
    refine SPO_h rfl (y_load Tryz.isAgg3 rfl (by repeat (first | exact Cell.head rfl | apply Cell.tail))) rfl ?_
    refine SPO_p rfl (y_mul rfl rfl (by omega)) rfl ?_
    refine SPO_p rfl (y_sub rfl rfl (by omega)) rfl ?_
    refine SPO_p rfl (y_idx_s Tryz.underlying9 rfl rfl (by omega) (c := h.s.getD (2 * h.k + 1) 0) (by rw [List.getD_eq_getElem?_getD, show (2 * ((h.k : Int) + 1) - 1).toNat = 2 * h.k + 1 by omega, List.getElem?_eq_getElem (by omega)]; rfl)) rfl ?_
    refine SPO_p rfl (y_conv Tryz.underlying5 Tryz.underlying154 rfl rfl) rfl ?_
    refine SPO_p rfl (y_conv Tryz.underlying154 Tryz.underlying51 rfl rfl) rfl ?_
    refine SPO_p rfl (y_mki Tryz.underlying51 rfl rfl) rfl ?_
    refine SPO_p rfl (y_assign rfl) rfl ?_
    refine SPO_nil ?_
    refine thenP_n ?_
    refine SP_ret ?_
    refine inBlockP_ret (thenP_ret (bodyP_ret (H' := [List.flatten [blk b 138 [S h.s, S (h.trace ++ [104] ++ numS imq ++ valsS args), I ((h.k : Int) + 1), .slice ka2 (h.kept.length + 1) kc2], sk2, List.flatten [sr, sv]], []]) (Res2 rfl rfl rfl) (by repeat (first | exact Part.nil _ | (apply Part.cons; (first | exact P0 | exact P1 | exact P2 | exact P3 | exact P4 | exact P5 | exact P6 | exact P7 | exact P8 | exact P9 | exact P10 | exact P11 | exact P12 | exact P13 | exact P14 | exact P15 | exact P16 | exact P17 | exact P18 | exact P19 | exact P20 | exact P21 | exact P22 | exact P23)) | (apply Part.flat; simp only [List.cons_append, List.nil_append]) | (apply Part.nilc))) ?_))
    obtain rfl : j = args.length := by omega
    rw [List.drop_length, List.flatMap_nil, List.append_nil] at ha
    rw [host_go hk0 (by omega)]
    dsimp only
    rw [if_neg (show ¬ (answer h.s h.k).2 = 0 from h23_1), if_neg (show ¬ (answer h.s h.k).2 = 0 from h23_1), if_neg (by omega), if_pos (by omega)]
    exact ⟨none, 0, _, _, rfl, rfl, tape_next hkr2 hkp ha, rfl, .inl ⟨rfl, rfl, rfl, rfl⟩⟩
  intro h28_0
  refine SPL_y (y_assign rfl) rfl ?_
  refine SPL_nil ?_
  refine thenP_n ?_
  refine SP_cond_f rfl ?_
  refine SP_seq ?_
  refine SP_region ?_
  refine SPL_if (y_eql rfl rfl) rfl ?_ ?_
  · intro h30_0
    refine SPL_y (y_assign rfl) rfl ?_
    refine SPL_nil ?_
    refine thenP_n ?_
    refine SP_cond_t rfl ?_
    refine SP_seq ?_
    refine SP_region ?_
    refine SPL_y (y_mki Tryz.underlying51 rfl rfl) rfl ?_
    refine SPL_y (y_build B305 rfl rfl (by simp only [fillL, List.foldl_cons, List.foldl_nil, List.set_cons_zero, List.set_cons_succ]; exact rfl)) rfl ?_
    refine SPL_y (y_mki Tryz.underlying305 rfl rfl) rfl ?_
    refine SPL_y (y_assign rfl) rfl ?_
    refine SPL_y (y_assign rfl) rfl ?_
    refine SPL_nil ?_
    refine thenP_n ?_
    refine SP_ret ?_
    refine inBlockP_ret (thenP_ret (bodyP_ret (H' := [List.flatten [blk b 138 [S h.s, S (h.trace ++ [104] ++ numS imq ++ valsS args), I ((h.k : Int) + 1), .slice ka2 (h.kept.length + 1) kc2], sk2, List.flatten [sr, sv]], []]) (Res2 rfl rfl rfl) (by repeat (first | exact Part.nil _ | (apply Part.cons; (first | exact P0 | exact P1 | exact P2 | exact P3 | exact P4 | exact P5 | exact P6 | exact P7 | exact P8 | exact P9 | exact P10 | exact P11 | exact P12 | exact P13 | exact P14 | exact P15 | exact P16 | exact P17 | exact P18 | exact P19 | exact P20 | exact P21 | exact P22 | exact P23)) | (apply Part.flat; simp only [List.cons_append, List.nil_append]) | (apply Part.nilc))) ?_))
    obtain rfl : j = args.length := by omega
    rw [List.drop_length, List.flatMap_nil, List.append_nil] at ha
    rw [host_go hk0 (by omega)]
    dsimp only
    rw [if_neg (show ¬ (answer h.s h.k).2 = 0 from h23_1), if_neg (show ¬ (answer h.s h.k).2 = 0 from h23_1), if_neg (by omega), if_neg (by omega), if_pos (by omega)]
    exact ⟨none, 0, _, _, rfl, rfl, tape_next hkr2 hkp ha, rfl, .inl ⟨rfl, rfl, rfl, rfl⟩⟩
  intro h30_0
  refine SPL_y (y_assign rfl) rfl ?_
  refine SPL_nil ?_
  refine thenP_n ?_
  refine SP_cond_f rfl ?_
  refine SP_skip ?_
  refine inBlockP_n ?_
  refine thenP_n ?_
  refine SP_seq ?_
  refine SP_region ?_
  refine SPL_y (y_build B303 rfl rfl (by simp only [fillL, List.foldl_cons, List.foldl_nil, List.set_cons_zero, List.set_cons_succ]; exact rfl)) rfl ?_
  refine SPL_y (y_mki Tryz.underlying303 rfl rfl) rfl ?_
  refine SPL_y (y_assign rfl) rfl ?_
  refine SPL_y (y_assign rfl) rfl ?_
  refine SPL_nil ?_
  refine thenP_n ?_
  refine SP_ret ?_
  refine bodyP_ret (H' := [List.flatten [blk b 138 [S h.s, S (h.trace ++ [104] ++ numS imq ++ valsS args), I ((h.k : Int) + 1), .slice ka2 (h.kept.length + 1) kc2], sk2, List.flatten [sr, sv]], []]) (Res2 rfl rfl rfl) (by repeat (first | exact Part.nil _ | (apply Part.cons; (first | exact P0 | exact P1 | exact P2 | exact P3 | exact P4 | exact P5 | exact P6 | exact P7 | exact P8 | exact P9 | exact P10 | exact P11 | exact P12 | exact P13 | exact P14 | exact P15 | exact P16 | exact P17 | exact P18 | exact P19 | exact P20 | exact P21 | exact P22 | exact P23)) | (apply Part.flat; simp only [List.cons_append, List.nil_append]) | (apply Part.nilc))) ?_
  obtain rfl : j = args.length := by omega
  rw [List.drop_length, List.flatMap_nil, List.append_nil] at ha
  rw [host_go hk0 (by omega)]
  dsimp only
  rw [if_neg (show ¬ (answer h.s h.k).2 = 0 from h23_1), if_neg (show ¬ (answer h.s h.k).2 = 0 from h23_1), if_neg (by omega), if_neg (by omega), if_neg (by omega)]
  exact ⟨none, 0, _, _, rfl, rfl, tape_next hkr2 hkp ha, rfl, .inl ⟨rfl, rfl, rfl, rfl⟩⟩

end Go.Sl
