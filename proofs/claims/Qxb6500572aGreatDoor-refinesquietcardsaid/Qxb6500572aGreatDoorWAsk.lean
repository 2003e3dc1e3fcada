/- Walks: package run, ask (made by program out of short notes) -/
import Derived.Test.Qxb6500572aGreatDoorWRunG
import Derived.Test.Qxb6500572aGreatDoorWHostB
import Derived.Test.Qxb6500572aGreatDoorMethB
namespace Go.Sl
open Go Go.Wl Go.Proofs
set_option maxRecDepth 100000
set_option linter.unusedVariables false
set_option linter.unusedSimpArgs false
theorem run_num (x : Nat) (pv kv : Value) (fa : Option Addr) (i : Inst) (s : Seg) (hm : isInst x pv kv fa i s) (hN : 0 < i.fr.length) (hz : i.st.length ≤ 1000000 ∧ i.fr.length ≤ 1000000) (y : W) (hy : y.ok) (rest : List W) (hfloor : ∀ h : i.fr.length - 1 < i.fr.length, i.fr[i.fr.length - 1].floor ≤ rest.length) (hst0 : i.st = rest ++ [y]) : Spec Tryz.prog 134 [.pointer (some ⟨x, 0, none⟩), .int .u8 y.t.toNat] [s] (Ret fun v H => ∃ s', v = I y.n ∧ H = [s'] ∧ isInst x pv kv fa { i with st := rest } s') := by
  obtain ⟨w, n⟩ := y
  cases w with
  | false => exact run_num32 x pv kv fa i s hm hN hz n rest hfloor hst0 (by simpa [W.ok] using hy)
  | true => exact run_num64 x pv kv fa i s hm hN hz n rest hfloor hst0
theorem run_needF (e : Int) : Spec Tryz.prog 126 [.bool false, I e] [] (RetP (fun _ _ => False) (fun c H => c = trapC e ∧ H = [])) :=
  (run_need false e).mono fun x H h => by
    cases x with
    | returned v => exact absurd h.1 (by decide)
    | panicked c => exact ⟨h.2.1, h.2.2⟩
    | outgrown => exact h
theorem tape_CallNil (imq sl : Value) : Spec Tryz.prog 191 [.pointer none, imq, sl] [] (Ret fun v H => v = .tuple #[.slice none 0 0, .iface 303 (.agg #[])] ∧ H = []) := by
  refine Spec_enter Tryz.func191 rfl Tryz.ntmps191 rfl ?_
  show SP _ _ _ _ _ [(0, _), (1, _), (2, _)] _
  refine SP_seq ?_
  refine SP_region ?_
  refine SPL_y (y_assign rfl) rfl ?_
  refine SPL_y (y_assign rfl) rfl ?_
  refine SPL_nil ?_
  refine thenP_n ?_
  refine SP_seq ?_
  refine SP_seq ?_
  refine SP_region ?_
  refine SPL_y (y_move rfl) rfl ?_
  refine SPL_y (y_peq_nil (a := none) Tryz.underlying135 rfl rfl) rfl ?_
  refine SPL_nil ?_
  refine thenP_n ?_
  refine SP_cond_t rfl ?_
  refine SP_seq ?_
  refine SP_region ?_
  refine SPL_y (y_build B303 rfl rfl (by simp only [fillL, List.foldl_cons, List.foldl_nil, List.set_cons_zero, List.set_cons_succ]; exact rfl)) rfl ?_
  refine SPL_y (y_mki Tryz.underlying303 rfl rfl) rfl ?_
  refine SPL_y (y_assign rfl) rfl ?_
  refine SPL_y (y_assign rfl) rfl ?_
  refine SPL_nil ?_
  refine thenP_n ?_
  refine SP_ret ?_
  refine thenP_ret (bodyP_ret (H' := []) (Res2 rfl rfl rfl) (by repeat (first | exact Part.nil _ | (apply Part.cons; (first | exact P0 | exact P1 | exact P2 | exact P3 | exact P4 | exact P5 | exact P6 | exact P7 | exact P8 | exact P9 | exact P10 | exact P11 | exact P12 | exact P13 | exact P14 | exact P15 | exact P16 | exact P17 | exact P18 | exact P19 | exact P20 | exact P21 | exact P22 | exact P23)) | (apply Part.flat; simp only [List.cons_append, List.nil_append]) | (apply Part.nilc))) ?_)
  exact ⟨rfl, rfl⟩

theorem errno_Trap (e : Int) : Spec Tryz.prog 187 [I e] [] (Ret fun v H => v = I e ∧ H = []) := by
  refine Spec_enter Tryz.func187 rfl Tryz.ntmps187 rfl ?_
  show SP _ _ _ _ _ [(0, _)] _
  refine SP_seq ?_
  refine SP_region ?_
  refine SPL_y (y_assign rfl) rfl ?_
  refine SPL_nil ?_
  refine thenP_n ?_
  refine SP_seq ?_
  refine SP_region ?_
  refine SPL_y (y_move rfl) rfl ?_
  refine SPL_y (y_assign rfl) rfl ?_
  refine SPL_nil ?_
  refine thenP_n ?_
  refine SP_ret ?_
  refine bodyP_ret (H' := []) (Res1 rfl rfl) (by repeat (first | exact Part.nil _ | (apply Part.cons; (first | exact P0 | exact P1 | exact P2 | exact P3 | exact P4 | exact P5 | exact P6 | exact P7 | exact P8 | exact P9 | exact P10 | exact P11 | exact P12 | exact P13 | exact P14 | exact P15 | exact P16 | exact P17 | exact P18 | exact P19 | exact P20 | exact P21 | exact P22 | exact P23)) | (apply Part.flat; simp only [List.cons_append, List.nil_append]) | (apply Part.nilc))) ?_
  exact ⟨rfl, rfl⟩

def zval : List Value := [.int .u8 0, .int .i64 0]
theorem zval_len (n : Nat) : (List.replicate n zval).flatten.length = n * 2 := by
  induction n with
  | zero => rfl
  | succ n ih => rw [List.replicate_succ, List.flatten_cons, List.length_append, ih]; simp [zval]; omega
theorem ask_put {k : Nat} {vs r : List Value} (hv : vs.length = 2) :
    (((List.replicate (k + 1) zval).flatten ++ r).take (0 + ((k : Nat) : Int).toNat * 2) ++ vs ++ ((List.replicate (k + 1) zval).flatten ++ r).drop (0 + ((k : Nat) : Int).toNat * 2 + vs.length)) = (List.replicate k zval).flatten ++ (vs ++ r) := by
  have hl : 0 + ((k : Nat) : Int).toNat * 2 = (List.replicate k zval).flatten.length := by rw [zval_len]; omega
  have e : (List.replicate (k + 1) zval).flatten ++ r = (List.replicate k zval).flatten ++ (zval ++ r) := by
    rw [List.replicate_succ', List.flatten_append]; simp
  rw [e, hl, List.take_left, ← List.drop_drop, List.drop_left, hv, List.append_assoc]; rfl
theorem asTall (x : HErr) (w : World) : (Instr.typeAssert (herrV x) 39 276 true).run Tryz.prog w = .ok (.tuple #[if x.kind = 1 then .iface 51 (I x.e) else .nilIface, .bool (decide (x.kind = 1))]) w := by
  unfold herrV
  by_cases h0 : x.kind = 0
  · rw [if_pos h0, if_neg (by omega), decide_eq_false (by omega)]; exact asTnil w
  · rw [if_neg h0]
    by_cases h1 : x.kind = 1
    · rw [if_pos h1, if_pos h1, decide_eq_true h1]; exact asT51 _ w
    · rw [if_neg h1, if_neg h1, decide_eq_false h1]
      split
      · exact asT305 _ w
      · exact asT303 _ w
theorem herr_nil {x : HErr} (h : ¬ x.kind = 1) : nilI (herrV x) = some (decide (x.kind = 0)) := by
  unfold herrV
  by_cases h0 : x.kind = 0
  · rw [if_pos h0, decide_eq_true h0]; rfl
  · rw [if_neg h0, if_neg h, decide_eq_false h0]
    by_cases h2 : x.kind = 2
    · rw [if_pos h2]; rfl
    · rw [if_neg h2]; rfl
theorem fits_hold {v : Val} {t : UInt8} {p q r : Prop} (hp : p ↔ (v.t.toNat : Int) = t.toNat) (hq : q ↔ (t.toNat : Int) = 108) (hr : r ↔ v.v = IntKind.i64.wrap (IntKind.i32.wrap v.v)) : (fits v t = true ↔ p ∧ (q ∨ r)) := by
  rw [hp, hq, hr, fits, decide_eq_true_eq]

theorem run_fits (v : Val) (t : UInt8) : Spec Tryz.prog 86 [.agg (valV v).toArray, .int .u8 t.toNat] [] (Ret fun w H => w = .bool (fits v t) ∧ H = []) := by
  obtain ⟨vt, vv⟩ := v
  refine Spec_enter Tryz.func86 rfl Tryz.ntmps86 rfl ?_
  show SP _ _ _ _ _ [(0, _), (1, _)] _
  refine SP_seq ?_
  refine SP_region ?_
  refine SPL_one rfl (SP1_box rfl rfl rfl ?_)
  intro b2
  refine SPL_y (y_assign rfl) rfl ?_
  refine SPL_nil ?_
  refine thenP_n ?_
  refine SP_seq ?_
  refine SP_region ?_
  refine SPL_y (y_fa fld_110_0 rfl) rfl ?_
  refine SPL_y (y_load Tryz.isAgg5 rfl (by repeat (first | exact Cell.head rfl | apply Cell.tail))) rfl ?_
  refine SPL_y (y_move rfl) rfl ?_
  refine SPL_ifn (y_eql rfl rfl) rfl ?_ ?_
  · intro h1_3
    refine SPL_y (y_move rfl) rfl ?_
    refine SPL_gn rfl rfl rfl rfl ?_
    refine SPL_gn rfl rfl rfl rfl ?_
    refine SPL_gn rfl rfl rfl rfl ?_
    refine SPL_gu rfl rfl rfl ?_
    refine SPL_gu rfl rfl rfl ?_
    refine SPL_gu rfl rfl rfl ?_
    refine SPL_gu rfl rfl rfl ?_
    refine SPL_gu rfl rfl rfl ?_
    refine SPL_gu rfl rfl rfl ?_
    refine SPL_gu rfl rfl rfl ?_
    refine SPL_gn rfl rfl rfl rfl ?_
    refine SPL_y (y_pick_f rfl rfl) rfl ?_
    refine SPL_y (y_assign rfl) rfl ?_
    refine SPL_nil ?_
    refine thenP_n ?_
    refine SP_ret ?_
    refine bodyP_ret (H' := []) (Res1 rfl rfl) (by repeat (first | exact Part.nil _ | (apply Part.cons; (first | exact P0 | exact P1 | exact P2 | exact P3 | exact P4 | exact P5 | exact P6 | exact P7 | exact P8 | exact P9 | exact P10 | exact P11 | exact P12 | exact P13 | exact P14 | exact P15 | exact P16 | exact P17 | exact P18 | exact P19 | exact P20 | exact P21 | exact P22 | exact P23)) | (apply Part.flat; simp only [List.cons_append, List.nil_append]) | (apply Part.nilc))) ?_
    have e : fits ⟨vt, vv⟩ t = false := by unfold fits; exact decide_eq_false (fun h => h1_3 h.1)
    rw [e]; exact ⟨rfl, rfl⟩
  intro h1_3
  refine SPL_y (y_move rfl) rfl ?_
  refine SPL_gy rfl rfl ?_
  refine SPL_y (y_move rfl) rfl ?_
  refine SPL_gy rfl rfl ?_
  refine SPL_if (y_eql rfl rfl) rfl ?_ ?_
  · intro h1_6
    refine SPL_gy rfl rfl ?_
    refine SPL_y (y_move rfl) rfl ?_
    refine SPL_gn rfl rfl rfl rfl ?_
    refine SPL_gn rfl rfl rfl rfl ?_
    refine SPL_gn rfl rfl rfl rfl ?_
    refine SPL_gn rfl rfl rfl rfl ?_
    refine SPL_gn rfl rfl rfl rfl ?_
    refine SPL_gn rfl rfl rfl rfl ?_
    refine SPL_gn rfl rfl rfl rfl ?_
    refine SPL_gy rfl rfl ?_
    refine SPL_y (y_pick_t rfl rfl) rfl ?_
    refine SPL_y (y_pick_t rfl rfl) rfl ?_
    refine SPL_y (y_assign rfl) rfl ?_
    refine SPL_nil ?_
    refine thenP_n ?_
    refine SP_ret ?_
    refine bodyP_ret (H' := []) (Res1 rfl rfl) (by repeat (first | exact Part.nil _ | (apply Part.cons; (first | exact P0 | exact P1 | exact P2 | exact P3 | exact P4 | exact P5 | exact P6 | exact P7 | exact P8 | exact P9 | exact P10 | exact P11 | exact P12 | exact P13 | exact P14 | exact P15 | exact P16 | exact P17 | exact P18 | exact P19 | exact P20 | exact P21 | exact P22 | exact P23)) | (apply Part.flat; simp only [List.cons_append, List.nil_append]) | (apply Part.nilc))) ?_
    have e : fits ⟨vt, vv⟩ t = true := by unfold fits; exact decide_eq_true ⟨h1_3, .inl h1_6⟩
    rw [e]; exact ⟨rfl, rfl⟩
  intro h1_6
  refine SPL_gy rfl rfl ?_
  refine SPL_y (y_move rfl) rfl ?_
  refine SPL_gy rfl rfl ?_
  refine SPL_y (y_fa fld_110_1 rfl) rfl ?_
  refine SPL_gy rfl rfl ?_
  refine SPL_y (y_load Tryz.isAgg3 rfl (by repeat (first | exact Cell.head rfl | apply Cell.tail))) rfl ?_
  refine SPL_gy rfl rfl ?_
  refine SPL_y (y_fa fld_110_1 rfl) rfl ?_
  refine SPL_gy rfl rfl ?_
  refine SPL_y (y_load Tryz.isAgg3 rfl (by repeat (first | exact Cell.head rfl | apply Cell.tail))) rfl ?_
  refine SPL_gy rfl rfl ?_
  refine SPL_y (y_conv Tryz.underlying3 Tryz.underlying21 rfl rfl) rfl ?_
  refine SPL_gy rfl rfl ?_
  refine SPL_y (y_conv Tryz.underlying21 Tryz.underlying3 rfl rfl) rfl ?_
  refine SPL_gy rfl rfl ?_
  refine SPL_y (y_eql rfl rfl) rfl ?_
  refine SPL_gy rfl rfl ?_
  refine SPL_y (y_pick_f rfl rfl) rfl ?_
  refine SPL_y (y_pick_t rfl rfl) rfl ?_
  refine SPL_y (y_assign rfl) rfl ?_
  refine SPL_nil ?_
  refine thenP_n ?_
  refine SP_ret ?_
  refine bodyP_ret (H' := []) (Res1 rfl rfl) (by repeat (first | exact Part.nil _ | (apply Part.cons; (first | exact P0 | exact P1 | exact P2 | exact P3 | exact P4 | exact P5 | exact P6 | exact P7 | exact P8 | exact P9 | exact P10 | exact P11 | exact P12 | exact P13 | exact P14 | exact P15 | exact P16 | exact P17 | exact P18 | exact P19 | exact P20 | exact P21 | exact P22 | exact P23)) | (apply Part.flat; simp only [List.cons_append, List.nil_append]) | (apply Part.nilc))) ?_
  have e : fits ⟨vt, vv⟩ t = decide (vv = IntKind.i64.wrap (IntKind.i32.wrap vv)) := by unfold fits; simp only [h1_3, h1_6, true_and, false_or]
  rw [e]; exact ⟨rfl, rfl⟩

theorem run_ask1 (x : Nat) (kv : Value) (pb : Nat) (pfa : Option Addr) (P : Prog) (steps : Int) (sp : Seg) (hp : isProg pb pfa P steps sp) (fa : Option Addr) (i : Inst) (s : Seg) (hm : isInst x (.pointer (some ⟨pb, 0, none⟩)) kv fa i s) (hN : 0 < i.fr.length) (hz : i.st.length ≤ 1000000 ∧ i.fr.length ≤ 1000000) (hb : Nat) (h : Host) (sh : Seg) (hh : isHost hb h sh) (hk : h.kind = 1) (imq : Int) (him : 0 ≤ imq ∧ imq ≤ 1000000) (rest vals : List W) (rs ls : List UInt8) (hst0 : i.st = rest ++ vals) (hfloor : ∀ h : i.fr.length - 1 < i.fr.length, i.fr[i.fr.length - 1].floor ≤ rest.length) (hsig : P.sig imq = (vals.map W.t, rs, ls, true)) (hvs : ∀ y, y ∈ vals → y.ok) (hvl : vals.length ≤ 100) (hrl : rs.length ≤ 100) : Spec Tryz.prog 132 [.pointer (some ⟨x, 0, none⟩), I imq, .nilIface] [s, sp, sh] (RetP (fun v H => ∃ s' sh', v = .tuple #[] ∧ H = [s', sp, sh'] ∧ (askM h imq rs vals).2.1 = 0 ∧ isInst x (.pointer (some ⟨pb, 0, none⟩)) kv fa { i with st := rest ++ (askM h imq rs vals).2.2 } s' ∧ isHost hb (askM h imq rs vals).1 sh') (fun c H => ∃ s' sh' st', c = trapC (askM h imq rs vals).2.1 ∧ (askM h imq rs vals).2.1 ≠ 0 ∧ H = [s', sp, sh'] ∧ isInst x (.pointer (some ⟨pb, 0, none⟩)) kv fa { i with st := st' } s' ∧ isHost hb (askM h imq rs vals).1 sh')) := by
  obtain ⟨tl, htl⟩ : ∃ x, vals.map W.t = x := ⟨_, rfl⟩
  have hll : tl.length = vals.length := by rw [← htl]; simp
  rw [htl] at hsig
  have hm00 := hm
  obtain ⟨sa, sc, fc, ss, sf, rfl, hst, hfr⟩ := hm
  refine Spec_flat ?_
  simp only [List.cons_append, List.nil_append]
  refine Spec_enter Tryz.func132 rfl Tryz.ntmps132 rfl ?_
  show SP _ _ _ _ _ [(0, _), (1, _), (2, _)] _
  refine SP_seq ?_
  refine SP_region ?_
  refine SPL_y (y_move rfl) rfl ?_
  refine SPL_y (y_nil rfl) rfl ?_
  refine SPL_y (y_fa fld_93_0 rfl) rfl ?_
  refine SPL_y (y_load Tryz.isAgg45 rfl (by repeat (first | exact Cell.head rfl | apply Cell.tail))) rfl ?_
  refine SPL_y (y_move rfl) rfl ?_
  refine SPL_one rfl (SP1_call ((by have := prep_Sig pb pfa P steps sp imq hp; rw [hsig] at this; exact this)) Tryz.call18 rfl rfl (by repeat (first | exact Part.nil _ | (apply Part.cons; (first | exact P0 | exact P1 | exact P2 | exact P3 | exact P4 | exact P5 | exact P6 | exact P7 | exact P8 | exact P9 | exact P10 | exact P11 | exact P12 | exact P13 | exact P14 | exact P15 | exact P16 | exact P17 | exact P18 | exact P19 | exact P20 | exact P21 | exact P22 | exact P23)) | (apply Part.flat; simp only [List.cons_append, List.nil_append]) | (apply Part.nilc))) ?_)
  rintro v post H' ⟨rfl, rfl⟩ hH
  try simp only [List.cons_append, List.nil_append] at hH
  subst hH
  refine SPL_y (y_move rfl) rfl ?_
  refine SPL_y (y_ext rfl rfl) rfl ?_
  refine SPL_y (y_ext rfl rfl) rfl ?_
  refine SPL_y (y_ext rfl rfl) rfl ?_
  refine SPL_y (y_ext rfl rfl) rfl ?_
  refine SPL_y (y_assign rfl) rfl ?_
  refine SPL_y (y_assign rfl) rfl ?_
  refine SPL_y (y_assign rfl) rfl ?_
  refine SPL_y (y_assign rfl) rfl ?_
  refine SPL_nil ?_
  refine thenP_n ?_
  refine SP_seq ?_
  refine SP_region ?_
  refine SPL_y (y_move rfl) rfl ?_
  refine SPL_one rfl (SP1_call (run_needT 10) Tryz.call126 rfl rfl (by repeat (first | exact Part.nil _ | (apply Part.cons; (first | exact P0 | exact P1 | exact P2 | exact P3 | exact P4 | exact P5 | exact P6 | exact P7 | exact P8 | exact P9 | exact P10 | exact P11 | exact P12 | exact P13 | exact P14 | exact P15 | exact P16 | exact P17 | exact P18 | exact P19 | exact P20 | exact P21 | exact P22 | exact P23)) | (apply Part.flat; simp only [List.cons_append, List.nil_append]) | (apply Part.nilc))) ?_)
  rintro v post H' ⟨rfl, rfl⟩ hH
  try simp only [List.cons_append, List.nil_append] at hH
  subst hH
  refine SPL_nil ?_
  refine thenP_n ?_
  refine SP_seq ?_
  refine SP_part (H' := [List.flatten [blk x 93 [.pointer (some ⟨pb, 0, none⟩), kv, .slice sa i.st.length sc, .slice fa i.fr.length fc, I i.used, I i.high], ss, sf], sp, sh]) (by repeat (first | exact Part.nil _ | (apply Part.cons; (first | exact P0 | exact P1 | exact P2 | exact P3 | exact P4 | exact P5 | exact P6 | exact P7 | exact P8 | exact P9 | exact P10 | exact P11 | exact P12 | exact P13 | exact P14 | exact P15 | exact P16 | exact P17 | exact P18 | exact P19 | exact P20 | exact P21 | exact P22 | exact P23)) | (apply Part.flat; simp only [List.cons_append, List.nil_append]) | (apply Part.nilc))) ?_
  obtain ⟨s, hs⟩ : ∃ z, List.flatten [blk x 93 [.pointer (some ⟨pb, 0, none⟩), kv, .slice sa i.st.length sc, .slice fa i.fr.length fc, I i.used, I i.high], ss, sf] = z := ⟨_, rfl⟩
  rw [hs] at hm00 ⊢
  refine SP_region ?_
  refine SPL_y (y_move rfl) rfl ?_
  refine SPL_y (y_len_s Tryz.underlying9 rfl) rfl ?_
  rw [hll]
  refine SPL_one rfl (SP1_make el_35 rfl (by omega) rfl ?_)
  intro b35
  rw [show (List.replicate vals.length [Value.int .u8 0, .int .i64 0]).flatten = (List.replicate vals.length zval).flatten ++ ((vals.drop vals.length).map W.val).flatMap valV by rw [List.drop_length]; simp [zval]]
  refine SPL_y (y_assign rfl) rfl ?_
  refine SPL_nil ?_
  refine thenP_n ?_
  refine SP_seq ?_
  refine SP_seq ?_
  refine SP_region ?_
  refine SPL_y (y_move rfl) rfl ?_
  refine SPL_y (y_len_s Tryz.underlying9 rfl) rfl ?_
  rw [hll]
  refine SPL_y (y_sub rfl rfl (by omega)) rfl ?_
  refine SPL_y (y_assign rfl) rfl ?_
  refine SPL_nil ?_
  refine thenP_n ?_
  refine SP_block ?_
  refine SP_loop (G := Nat × Seg) (fun g => g.1) (fun g => [(0, .pointer (some ⟨x, 0, none⟩)), (1, I imq), (2, .nilIface), (6, S tl), (7, S rs), (10, .slice (some ⟨b35, 0, none⟩) vals.length vals.length), (11, I ((g.1 : Int) - 1))]) (fun g => [blk b35 110 ((List.replicate g.1 zval).flatten ++ ((vals.drop g.1).map W.val).flatMap valV), g.2, sp, sh]) (fun g => g.1 ≤ vals.length ∧ isInst x (.pointer (some ⟨pb, 0, none⟩)) kv fa { i with st := rest ++ vals.take g.1 } g.2) (⟨vals.length, s⟩) (⟨Nat.le_refl _, by rw [List.take_length, ← hst0]; exact hm00⟩) (by repeat (first | exact Sub.nil _ | refine Sub.cons rfl ?_)) (by repeat (first | exact Part.nil _ | (apply Part.cons; (first | exact P0 | exact P1 | exact P2 | exact P3 | exact P4 | exact P5 | exact P6 | exact P7 | exact P8 | exact P9 | exact P10 | exact P11 | exact P12 | exact P13 | exact P14 | exact P15 | exact P16 | exact P17 | exact P18 | exact P19 | exact P20 | exact P21 | exact P22 | exact P23)) | (apply Part.flat; simp only [List.cons_append, List.nil_append]) | (apply Part.nilc))) ?_
  rintro ⟨m, s⟩ ⟨hml, hm⟩
  dsimp only at hml hm ⊢
  refine SP_seq ?_
  refine SP_seq ?_
  refine SP_region ?_
  refine SPL_y (y_move rfl) rfl ?_
  refine SPL_ifn (y_geq rfl rfl) rfl ?_ ?_
  · intro h4_1
    refine SPL_nil ?_
    refine thenP_n ?_
    refine SP_cond_f rfl ?_
    refine SP_exit ?_
    refine thenP_exit ?_
    refine thenP_exit ?_
    refine inBlockP_hit ?_
    refine thenP_n ?_
    refine SP_seq ?_
    refine SP_region ?_
    refine SPL_y (y_move rfl) rfl ?_
    refine SPL_y (y_ine_nil (c := false) Tryz.underlying134 rfl rfl) rfl ?_
    refine SPL_one rfl (SP1_callp (run_needF 15) Tryz.call126 rfl rfl (by repeat (first | exact Part.nil _ | (apply Part.cons; (first | exact P0 | exact P1 | exact P2 | exact P3 | exact P4 | exact P5 | exact P6 | exact P7 | exact P8 | exact P9 | exact P10 | exact P11 | exact P12 | exact P13 | exact P14 | exact P15 | exact P16 | exact P17 | exact P18 | exact P19 | exact P20 | exact P21 | exact P22 | exact P23)) | (apply Part.flat; simp only [List.cons_append, List.nil_append]) | (apply Part.nilc))) ?_ ?_)
    · rintro c post H' ⟨rfl, rfl⟩ hH
      try simp only [List.cons_append, List.nil_append] at hH
      subst hH
      refine thenP_panic (bodyP_panic (H' := [s, sp, sh]) (by repeat (first | exact Part.nil _ | (apply Part.cons; (first | exact P0 | exact P1 | exact P2 | exact P3 | exact P4 | exact P5 | exact P6 | exact P7 | exact P8 | exact P9 | exact P10 | exact P11 | exact P12 | exact P13 | exact P14 | exact P15 | exact P16 | exact P17 | exact P18 | exact P19 | exact P20 | exact P21 | exact P22 | exact P23)) | (apply Part.flat; simp only [List.cons_append, List.nil_append]) | (apply Part.nilc))) ?_)
      have e : askM h imq rs vals = (h, 15, []) := by unfold askM; rw [if_pos hk]
      rw [e]
      exact ⟨s, sh, _, rfl, (by show (15 : Int) ≠ 0; decide), rfl, hm, hh⟩
    rintro v post H' hF
    exact hF.elim
  intro h4_1
  refine SPL_nil ?_
  refine thenP_n ?_
  refine SP_cond_t rfl ?_
  refine SP_skip ?_
  refine thenP_n ?_
  refine SP_seq ?_
  refine SP_block ?_
  refine SP_seq ?_
  obtain ⟨k, rfl⟩ : ∃ k, m = k + 1 := ⟨m - 1, by omega⟩
  have hkl : k < vals.length := by omega
  rw [show (((k + 1 : Nat) : Int) - 1) = (k : Int) by omega]
  have htk : tl[k]'(by omega) = vals[k].t := by simp [← htl]
  refine SP_region ?_
  refine SPL_y (y_move rfl) rfl ?_
  refine SPL_y (y_move rfl) rfl ?_
  refine SPL_y (y_move rfl) rfl ?_
  refine SPL_y (y_idx_s Tryz.underlying9 rfl rfl (by omega) (c := vals[k].t) (by rw [show ((k : Nat) : Int).toNat = k by omega, List.getElem?_eq_getElem (by omega), htk])) rfl ?_
  refine SPL_one rfl (SP1_call (run_num x (.pointer (some ⟨pb, 0, none⟩)) kv fa { i with st := rest ++ vals.take (k + 1) } s hm hN (by have := hz; dsimp only; rw [hst0] at this; simp only [List.length_append, List.length_take] at this ⊢; omega) vals[k] (hvs _ (List.getElem_mem hkl)) (rest ++ vals.take k) (fun h => Nat.le_trans (hfloor h) (by simp)) (by dsimp only; rw [List.take_succ_eq_append_getElem hkl, List.append_assoc])) Tryz.call134 rfl rfl (by repeat (first | exact Part.nil _ | (apply Part.cons; (first | exact P0 | exact P1 | exact P2 | exact P3 | exact P4 | exact P5 | exact P6 | exact P7 | exact P8 | exact P9 | exact P10 | exact P11 | exact P12 | exact P13 | exact P14 | exact P15 | exact P16 | exact P17 | exact P18 | exact P19 | exact P20 | exact P21 | exact P22 | exact P23)) | (apply Part.flat; simp only [List.cons_append, List.nil_append]) | (apply Part.nilc))) ?_)
  rintro v post H' ⟨s1, rfl, rfl, hm1⟩ hH
  try simp only [List.cons_append, List.nil_append] at hH
  subst hH
  refine SPL_y (y_assign rfl) rfl ?_
  refine SPL_nil ?_
  refine thenP_n ?_
  refine SP_region ?_
  refine SPL_y (y_move rfl) rfl ?_
  refine SPL_y (y_move rfl) rfl ?_
  refine SPL_y (y_move rfl) rfl ?_
  refine SPL_y (y_move rfl) rfl ?_
  refine SPL_y (y_idx_s Tryz.underlying9 rfl rfl (by omega) (c := vals[k].t) (by rw [show ((k : Nat) : Int).toNat = k by omega, List.getElem?_eq_getElem (by omega), htk])) rfl ?_
  refine SPL_y (y_move rfl) rfl ?_
  refine SPL_y (y_build B110 rfl rfl (by simp only [fillL, List.foldl_cons, List.foldl_nil, List.set_cons_zero, List.set_cons_succ]; exact rfl)) rfl ?_
  refine SPL_y (y_ia Tryz.underlying35 Tryz.sizeOf110 rfl rfl (by omega)) rfl ?_
  refine SPL_one rfl (SP1_stores (vs := valV vals[k].val) (l' := (List.replicate k zval).flatten ++ ((vals.drop k).map W.val).flatMap valV) Tryz.sizeOf110 rfl rfl rfl rfl (by simp [valV]; exact ⟨rfl, rfl⟩) (by first | exact U0 | exact U1 | exact U2 | exact U3 | exact U4 | exact U5 | exact U6 | exact U7 | exact U8 | exact U9 | exact U10 | exact U11 | exact U12 | exact U13 | exact U14 | exact U15 | exact U16 | exact U17 | exact U18 | exact U19 | exact U20 | exact U21 | exact U22 | exact U23) (by rw [List.length_append, zval_len]; simp only [valV, List.length_cons, List.length_nil]; omega) (by rw [ask_put rfl, List.drop_eq_getElem_cons hkl, List.map_cons, List.flatMap_cons]) ?_)
  refine SPL_nil ?_
  refine inBlockP_n ?_
  refine thenP_n ?_
  refine SP_region ?_
  refine SPL_y (y_move rfl) rfl ?_
  refine SPL_y (y_sub rfl rfl (by omega)) rfl ?_
  refine SPL_y (y_assign rfl) rfl ?_
  refine SPL_nil ?_
  refine thenP_n ?_
  exact Again.intro (⟨k, s1⟩) (⟨by dsimp only; omega, hm1⟩) (by dsimp only; omega) (by repeat (first | exact Sub.nil _ | refine Sub.cons rfl ?_)) (by repeat (first | exact Part.nil _ | (apply Part.cons; (first | exact P0 | exact P1 | exact P2 | exact P3 | exact P4 | exact P5 | exact P6 | exact P7 | exact P8 | exact P9 | exact P10 | exact P11 | exact P12 | exact P13 | exact P14 | exact P15 | exact P16 | exact P17 | exact P18 | exact P19 | exact P20 | exact P21 | exact P22 | exact P23)) | (apply Part.flat; simp only [List.cons_append, List.nil_append]) | (apply Part.nilc)))

theorem run_ask2 (x : Nat) (kv : Value) (pb : Nat) (pfa : Option Addr) (P : Prog) (steps : Int) (sp : Seg) (hp : isProg pb pfa P steps sp) (fa : Option Addr) (i : Inst) (s : Seg) (hm : isInst x (.pointer (some ⟨pb, 0, none⟩)) kv fa i s) (hN : 0 < i.fr.length) (hz : i.st.length ≤ 1000000 ∧ i.fr.length ≤ 1000000) (hb : Nat) (h : Host) (sh : Seg) (hh : isHost hb h sh) (hk : h.kind ≠ 0 ∧ h.kind ≠ 1) (imq : Int) (him : 0 ≤ imq ∧ imq ≤ 1000000) (rest vals : List W) (rs ls : List UInt8) (hst0 : i.st = rest ++ vals) (hfloor : ∀ h : i.fr.length - 1 < i.fr.length, i.fr[i.fr.length - 1].floor ≤ rest.length) (hsig : P.sig imq = (vals.map W.t, rs, ls, true)) (hvs : ∀ y, y ∈ vals → y.ok) (hvl : vals.length ≤ 100) (hrl : rs.length ≤ 100) : Spec Tryz.prog 132 [.pointer (some ⟨x, 0, none⟩), I imq, .iface 135 (.pointer none)] [s, sp, sh] (RetP (fun v H => ∃ s' sh', v = .tuple #[] ∧ H = [s', sp, sh'] ∧ (askM h imq rs vals).2.1 = 0 ∧ isInst x (.pointer (some ⟨pb, 0, none⟩)) kv fa { i with st := rest ++ (askM h imq rs vals).2.2 } s' ∧ isHost hb (askM h imq rs vals).1 sh') (fun c H => ∃ s' sh' st', c = trapC (askM h imq rs vals).2.1 ∧ (askM h imq rs vals).2.1 ≠ 0 ∧ H = [s', sp, sh'] ∧ isInst x (.pointer (some ⟨pb, 0, none⟩)) kv fa { i with st := st' } s' ∧ isHost hb (askM h imq rs vals).1 sh')) := by
  obtain ⟨tl, htl⟩ : ∃ x, vals.map W.t = x := ⟨_, rfl⟩
  have hll : tl.length = vals.length := by rw [← htl]; simp
  rw [htl] at hsig
  have hm00 := hm
  obtain ⟨sa, sc, fc, ss, sf, rfl, hst, hfr⟩ := hm
  refine Spec_flat ?_
  simp only [List.cons_append, List.nil_append]
  refine Spec_enter Tryz.func132 rfl Tryz.ntmps132 rfl ?_
  show SP _ _ _ _ _ [(0, _), (1, _), (2, _)] _
  refine SP_seq ?_
  refine SP_region ?_
  refine SPL_y (y_move rfl) rfl ?_
  refine SPL_y (y_nil rfl) rfl ?_
  refine SPL_y (y_fa fld_93_0 rfl) rfl ?_
  refine SPL_y (y_load Tryz.isAgg45 rfl (by repeat (first | exact Cell.head rfl | apply Cell.tail))) rfl ?_
  refine SPL_y (y_move rfl) rfl ?_
  refine SPL_one rfl (SP1_call ((by have := prep_Sig pb pfa P steps sp imq hp; rw [hsig] at this; exact this)) Tryz.call18 rfl rfl (by repeat (first | exact Part.nil _ | (apply Part.cons; (first | exact P0 | exact P1 | exact P2 | exact P3 | exact P4 | exact P5 | exact P6 | exact P7 | exact P8 | exact P9 | exact P10 | exact P11 | exact P12 | exact P13 | exact P14 | exact P15 | exact P16 | exact P17 | exact P18 | exact P19 | exact P20 | exact P21 | exact P22 | exact P23)) | (apply Part.flat; simp only [List.cons_append, List.nil_append]) | (apply Part.nilc))) ?_)
  rintro v post H' ⟨rfl, rfl⟩ hH
  try simp only [List.cons_append, List.nil_append] at hH
  subst hH
  refine SPL_y (y_move rfl) rfl ?_
  refine SPL_y (y_ext rfl rfl) rfl ?_
  refine SPL_y (y_ext rfl rfl) rfl ?_
  refine SPL_y (y_ext rfl rfl) rfl ?_
  refine SPL_y (y_ext rfl rfl) rfl ?_
  refine SPL_y (y_assign rfl) rfl ?_
  refine SPL_y (y_assign rfl) rfl ?_
  refine SPL_y (y_assign rfl) rfl ?_
  refine SPL_y (y_assign rfl) rfl ?_
  refine SPL_nil ?_
  refine thenP_n ?_
  refine SP_seq ?_
  refine SP_region ?_
  refine SPL_y (y_move rfl) rfl ?_
  refine SPL_one rfl (SP1_call (run_needT 10) Tryz.call126 rfl rfl (by repeat (first | exact Part.nil _ | (apply Part.cons; (first | exact P0 | exact P1 | exact P2 | exact P3 | exact P4 | exact P5 | exact P6 | exact P7 | exact P8 | exact P9 | exact P10 | exact P11 | exact P12 | exact P13 | exact P14 | exact P15 | exact P16 | exact P17 | exact P18 | exact P19 | exact P20 | exact P21 | exact P22 | exact P23)) | (apply Part.flat; simp only [List.cons_append, List.nil_append]) | (apply Part.nilc))) ?_)
  rintro v post H' ⟨rfl, rfl⟩ hH
  try simp only [List.cons_append, List.nil_append] at hH
  subst hH
  refine SPL_nil ?_
  refine thenP_n ?_
  refine SP_seq ?_
  refine SP_part (H' := [List.flatten [blk x 93 [.pointer (some ⟨pb, 0, none⟩), kv, .slice sa i.st.length sc, .slice fa i.fr.length fc, I i.used, I i.high], ss, sf], sp, sh]) (by repeat (first | exact Part.nil _ | (apply Part.cons; (first | exact P0 | exact P1 | exact P2 | exact P3 | exact P4 | exact P5 | exact P6 | exact P7 | exact P8 | exact P9 | exact P10 | exact P11 | exact P12 | exact P13 | exact P14 | exact P15 | exact P16 | exact P17 | exact P18 | exact P19 | exact P20 | exact P21 | exact P22 | exact P23)) | (apply Part.flat; simp only [List.cons_append, List.nil_append]) | (apply Part.nilc))) ?_
  obtain ⟨s, hs⟩ : ∃ z, List.flatten [blk x 93 [.pointer (some ⟨pb, 0, none⟩), kv, .slice sa i.st.length sc, .slice fa i.fr.length fc, I i.used, I i.high], ss, sf] = z := ⟨_, rfl⟩
  rw [hs] at hm00 ⊢
  refine SP_region ?_
  refine SPL_y (y_move rfl) rfl ?_
  refine SPL_y (y_len_s Tryz.underlying9 rfl) rfl ?_
  rw [hll]
  refine SPL_one rfl (SP1_make el_35 rfl (by omega) rfl ?_)
  intro b35
  rw [show (List.replicate vals.length [Value.int .u8 0, .int .i64 0]).flatten = (List.replicate vals.length zval).flatten ++ ((vals.drop vals.length).map W.val).flatMap valV by rw [List.drop_length]; simp [zval]]
  refine SPL_y (y_assign rfl) rfl ?_
  refine SPL_nil ?_
  refine thenP_n ?_
  refine SP_seq ?_
  refine SP_seq ?_
  refine SP_region ?_
  refine SPL_y (y_move rfl) rfl ?_
  refine SPL_y (y_len_s Tryz.underlying9 rfl) rfl ?_
  rw [hll]
  refine SPL_y (y_sub rfl rfl (by omega)) rfl ?_
  refine SPL_y (y_assign rfl) rfl ?_
  refine SPL_nil ?_
  refine thenP_n ?_
  refine SP_block ?_
  refine SP_loop (G := Nat × Seg) (fun g => g.1) (fun g => [(0, .pointer (some ⟨x, 0, none⟩)), (1, I imq), (2, .iface 135 (.pointer none)), (6, S tl), (7, S rs), (10, .slice (some ⟨b35, 0, none⟩) vals.length vals.length), (11, I ((g.1 : Int) - 1))]) (fun g => [blk b35 110 ((List.replicate g.1 zval).flatten ++ ((vals.drop g.1).map W.val).flatMap valV), g.2, sp, sh]) (fun g => g.1 ≤ vals.length ∧ isInst x (.pointer (some ⟨pb, 0, none⟩)) kv fa { i with st := rest ++ vals.take g.1 } g.2) (⟨vals.length, s⟩) (⟨Nat.le_refl _, by rw [List.take_length, ← hst0]; exact hm00⟩) (by repeat (first | exact Sub.nil _ | refine Sub.cons rfl ?_)) (by repeat (first | exact Part.nil _ | (apply Part.cons; (first | exact P0 | exact P1 | exact P2 | exact P3 | exact P4 | exact P5 | exact P6 | exact P7 | exact P8 | exact P9 | exact P10 | exact P11 | exact P12 | exact P13 | exact P14 | exact P15 | exact P16 | exact P17 | exact P18 | exact P19 | exact P20 | exact P21 | exact P22 | exact P23)) | (apply Part.flat; simp only [List.cons_append, List.nil_append]) | (apply Part.nilc))) ?_
  rintro ⟨m, s⟩ ⟨hml, hm⟩
  dsimp only at hml hm ⊢
  refine SP_seq ?_
  refine SP_seq ?_
  refine SP_region ?_
  refine SPL_y (y_move rfl) rfl ?_
  refine SPL_if (y_geq rfl rfl) rfl ?_ ?_
  · intro h4_1
    refine SPL_nil ?_
    refine thenP_n ?_
    refine SP_cond_t rfl ?_
    refine SP_skip ?_
    refine thenP_n ?_
    refine SP_seq ?_
    refine SP_block ?_
    refine SP_seq ?_
    obtain ⟨k, rfl⟩ : ∃ k, m = k + 1 := ⟨m - 1, by omega⟩
    have hkl : k < vals.length := by omega
    rw [show (((k + 1 : Nat) : Int) - 1) = (k : Int) by omega]
    have htk : tl[k]'(by omega) = vals[k].t := by simp [← htl]
    refine SP_region ?_
    refine SPL_y (y_move rfl) rfl ?_
    refine SPL_y (y_move rfl) rfl ?_
    refine SPL_y (y_move rfl) rfl ?_
    refine SPL_y (y_idx_s Tryz.underlying9 rfl rfl (by omega) (c := vals[k].t) (by rw [show ((k : Nat) : Int).toNat = k by omega, List.getElem?_eq_getElem (by omega), htk])) rfl ?_
    refine SPL_one rfl (SP1_call (run_num x (.pointer (some ⟨pb, 0, none⟩)) kv fa { i with st := rest ++ vals.take (k + 1) } s hm hN (by have := hz; dsimp only; rw [hst0] at this; simp only [List.length_append, List.length_take] at this ⊢; omega) vals[k] (hvs _ (List.getElem_mem hkl)) (rest ++ vals.take k) (fun h => Nat.le_trans (hfloor h) (by simp)) (by dsimp only; rw [List.take_succ_eq_append_getElem hkl, List.append_assoc])) Tryz.call134 rfl rfl (by repeat (first | exact Part.nil _ | (apply Part.cons; (first | exact P0 | exact P1 | exact P2 | exact P3 | exact P4 | exact P5 | exact P6 | exact P7 | exact P8 | exact P9 | exact P10 | exact P11 | exact P12 | exact P13 | exact P14 | exact P15 | exact P16 | exact P17 | exact P18 | exact P19 | exact P20 | exact P21 | exact P22 | exact P23)) | (apply Part.flat; simp only [List.cons_append, List.nil_append]) | (apply Part.nilc))) ?_)
    rintro v post H' ⟨s1, rfl, rfl, hm1⟩ hH
    try simp only [List.cons_append, List.nil_append] at hH
    subst hH
    refine SPL_y (y_assign rfl) rfl ?_
    refine SPL_nil ?_
    refine thenP_n ?_
    refine SP_region ?_
    refine SPL_y (y_move rfl) rfl ?_
    refine SPL_y (y_move rfl) rfl ?_
    refine SPL_y (y_move rfl) rfl ?_
    refine SPL_y (y_move rfl) rfl ?_
    refine SPL_y (y_idx_s Tryz.underlying9 rfl rfl (by omega) (c := vals[k].t) (by rw [show ((k : Nat) : Int).toNat = k by omega, List.getElem?_eq_getElem (by omega), htk])) rfl ?_
    refine SPL_y (y_move rfl) rfl ?_
    refine SPL_y (y_build B110 rfl rfl (by simp only [fillL, List.foldl_cons, List.foldl_nil, List.set_cons_zero, List.set_cons_succ]; exact rfl)) rfl ?_
    refine SPL_y (y_ia Tryz.underlying35 Tryz.sizeOf110 rfl rfl (by omega)) rfl ?_
    refine SPL_one rfl (SP1_stores (vs := valV vals[k].val) (l' := (List.replicate k zval).flatten ++ ((vals.drop k).map W.val).flatMap valV) Tryz.sizeOf110 rfl rfl rfl rfl (by simp [valV]; exact ⟨rfl, rfl⟩) (by first | exact U0 | exact U1 | exact U2 | exact U3 | exact U4 | exact U5 | exact U6 | exact U7 | exact U8 | exact U9 | exact U10 | exact U11 | exact U12 | exact U13 | exact U14 | exact U15 | exact U16 | exact U17 | exact U18 | exact U19 | exact U20 | exact U21 | exact U22 | exact U23) (by rw [List.length_append, zval_len]; simp only [valV, List.length_cons, List.length_nil]; omega) (by rw [ask_put rfl, List.drop_eq_getElem_cons hkl, List.map_cons, List.flatMap_cons]) ?_)
    refine SPL_nil ?_
    refine inBlockP_n ?_
    refine thenP_n ?_
    refine SP_region ?_
    refine SPL_y (y_move rfl) rfl ?_
    refine SPL_y (y_sub rfl rfl (by omega)) rfl ?_
    refine SPL_y (y_assign rfl) rfl ?_
    refine SPL_nil ?_
    refine thenP_n ?_
    exact Again.intro (⟨k, s1⟩) (⟨by dsimp only; omega, hm1⟩) (by dsimp only; omega) (by repeat (first | exact Sub.nil _ | refine Sub.cons rfl ?_)) (by repeat (first | exact Part.nil _ | (apply Part.cons; (first | exact P0 | exact P1 | exact P2 | exact P3 | exact P4 | exact P5 | exact P6 | exact P7 | exact P8 | exact P9 | exact P10 | exact P11 | exact P12 | exact P13 | exact P14 | exact P15 | exact P16 | exact P17 | exact P18 | exact P19 | exact P20 | exact P21 | exact P22 | exact P23)) | (apply Part.flat; simp only [List.cons_append, List.nil_append]) | (apply Part.nilc)))
  intro h4_1
  refine SPL_nil ?_
  refine thenP_n ?_
  refine SP_cond_f rfl ?_
  refine SP_exit ?_
  refine thenP_exit ?_
  refine thenP_exit ?_
  refine inBlockP_hit ?_
  refine thenP_n ?_
  refine SP_seq ?_
  refine SP_region ?_
  refine SPL_y (y_move rfl) rfl ?_
  refine SPL_y (y_ine_nil (c := true) Tryz.underlying134 rfl rfl) rfl ?_
  refine SPL_one rfl (SP1_call (run_needT 15) Tryz.call126 rfl rfl (by repeat (first | exact Part.nil _ | (apply Part.cons; (first | exact P0 | exact P1 | exact P2 | exact P3 | exact P4 | exact P5 | exact P6 | exact P7 | exact P8 | exact P9 | exact P10 | exact P11 | exact P12 | exact P13 | exact P14 | exact P15 | exact P16 | exact P17 | exact P18 | exact P19 | exact P20 | exact P21 | exact P22 | exact P23)) | (apply Part.flat; simp only [List.cons_append, List.nil_append]) | (apply Part.nilc))) ?_)
  rintro v post H' ⟨rfl, rfl⟩ hH
  try simp only [List.cons_append, List.nil_append] at hH
  subst hH
  refine SPL_nil ?_
  refine thenP_n ?_
  refine SP_seq ?_
  refine SP_region ?_
  refine SPL_y (y_move rfl) rfl ?_
  refine SPL_y (y_move rfl) rfl ?_
  refine SPL_y (y_move rfl) rfl ?_
  refine SPL_one rfl (SP1_invoke (rv := .pointer none) (args := [I imq, .slice (some ⟨b35, 0, none⟩) vals.length vals.length]) rfl (callM none) (tape_CallNil _ _) rfl rfl (by repeat (first | exact Part.nil _ | (apply Part.cons; (first | exact P0 | exact P1 | exact P2 | exact P3 | exact P4 | exact P5 | exact P6 | exact P7 | exact P8 | exact P9 | exact P10 | exact P11 | exact P12 | exact P13 | exact P14 | exact P15 | exact P16 | exact P17 | exact P18 | exact P19 | exact P20 | exact P21 | exact P22 | exact P23)) | (apply Part.flat; simp only [List.cons_append, List.nil_append]) | (apply Part.nilc))) ?_)
  rintro v post H' ⟨rfl, rfl⟩ hH
  simp only [List.cons_append, List.nil_append] at hH
  subst hH
  refine SPL_y (y_move rfl) rfl ?_
  refine SPL_y (y_ext rfl rfl) rfl ?_
  refine SPL_y (y_ext rfl rfl) rfl ?_
  refine SPL_y (y_assign rfl) rfl ?_
  refine SPL_y (y_assign rfl) rfl ?_
  refine SPL_nil ?_
  refine thenP_n ?_
  refine SP_seq ?_
  refine SP_seq ?_
  refine SP_region ?_
  refine SPL_y (y_move rfl) rfl ?_
  refine SPL_y (y_assertR rfl (asT303 _)) rfl ?_
  refine SPL_y (y_move rfl) rfl ?_
  refine SPL_y (y_ext rfl rfl) rfl ?_
  refine SPL_y (y_ext rfl rfl) rfl ?_
  refine SPL_y (y_assign rfl) rfl ?_
  refine SPL_y (y_assign rfl) rfl ?_
  refine SPL_nil ?_
  refine thenP_n ?_
  refine SP_seq ?_
  refine SP_region ?_
  refine SPL_y (y_move rfl) rfl ?_
  refine SPL_nil ?_
  refine thenP_n ?_
  refine SP_cond_f rfl ?_
  refine SP_skip ?_
  refine thenP_n ?_
  refine SP_seq ?_
  refine SP_region ?_
  refine SPL_y (y_move rfl) rfl ?_
  refine SPL_y (y_ieq_nil (c := false) Tryz.underlying39 rfl rfl) rfl ?_
  refine SPL_one rfl (SP1_callp (run_needF 15) Tryz.call126 rfl rfl (by repeat (first | exact Part.nil _ | (apply Part.cons; (first | exact P0 | exact P1 | exact P2 | exact P3 | exact P4 | exact P5 | exact P6 | exact P7 | exact P8 | exact P9 | exact P10 | exact P11 | exact P12 | exact P13 | exact P14 | exact P15 | exact P16 | exact P17 | exact P18 | exact P19 | exact P20 | exact P21 | exact P22 | exact P23)) | (apply Part.flat; simp only [List.cons_append, List.nil_append]) | (apply Part.nilc))) ?_ ?_)
  · rintro c post H' ⟨rfl, rfl⟩ hH
    try simp only [List.cons_append, List.nil_append] at hH
    subst hH
    refine thenP_panic (bodyP_panic (H' := [s, sp, sh]) (by repeat (first | exact Part.nil _ | (apply Part.cons; (first | exact P0 | exact P1 | exact P2 | exact P3 | exact P4 | exact P5 | exact P6 | exact P7 | exact P8 | exact P9 | exact P10 | exact P11 | exact P12 | exact P13 | exact P14 | exact P15 | exact P16 | exact P17 | exact P18 | exact P19 | exact P20 | exact P21 | exact P22 | exact P23)) | (apply Part.flat; simp only [List.cons_append, List.nil_append]) | (apply Part.nilc))) ?_)
    have e : askM h imq rs vals = (h, 15, []) := by
      have e1 : hostCall h imq (vals.map W.val) = (h, [], ⟨3, 0⟩) := by unfold hostCall; rw [if_pos hk.1]
      unfold askM; rw [if_neg hk.2, e1]; rfl
    rw [e]
    exact ⟨s, sh, _, rfl, (by show (15 : Int) ≠ 0; decide), rfl, hm, hh⟩
  rintro v post H' hF
  exact hF.elim

theorem run_ask0 (x : Nat) (kv : Value) (pb : Nat) (pfa : Option Addr) (P : Prog) (steps : Int) (sp : Seg) (hp : isProg pb pfa P steps sp) (fa : Option Addr) (i : Inst) (s : Seg) (hm : isInst x (.pointer (some ⟨pb, 0, none⟩)) kv fa i s) (hN : 0 < i.fr.length) (hz : i.st.length ≤ 1000000 ∧ i.fr.length ≤ 1000000) (hb : Nat) (h : Host) (sh : Seg) (hh : isTape hb h sh) (hk : h.kind = 0) (hb1 : h.trace.length ≤ 100000) (hb2 : h.s.length ≤ 140737488351232) (hb4 : h.kept.length ≤ 1000) (hb5 : h.k ≤ 1000000000) (hb6 : ∀ n, n ∈ h.kept → n ≤ 1000) (imq : Int) (him : 0 ≤ imq ∧ imq ≤ 1000000) (rest vals : List W) (rs ls : List UInt8) (hst0 : i.st = rest ++ vals) (hfloor : ∀ h : i.fr.length - 1 < i.fr.length, i.fr[i.fr.length - 1].floor ≤ rest.length) (hsig : P.sig imq = (vals.map W.t, rs, ls, true)) (hvs : ∀ y, y ∈ vals → y.ok) (hvl : vals.length ≤ 100) (hrl : rs.length ≤ 100) : Spec Tryz.prog 132 [.pointer (some ⟨x, 0, none⟩), I imq, .iface 135 (.pointer (some ⟨hb, 0, none⟩))] [s, sp, sh] (RetP (fun v H => ∃ s' sh', v = .tuple #[] ∧ H = [s', sp, sh'] ∧ (askM h imq rs vals).2.1 = 0 ∧ isInst x (.pointer (some ⟨pb, 0, none⟩)) kv fa { i with st := rest ++ (askM h imq rs vals).2.2 } s' ∧ isHost hb (askM h imq rs vals).1 sh') (fun c H => ∃ s' sh' st', c = trapC (askM h imq rs vals).2.1 ∧ (askM h imq rs vals).2.1 ≠ 0 ∧ H = [s', sp, sh'] ∧ isInst x (.pointer (some ⟨pb, 0, none⟩)) kv fa { i with st := st' } s' ∧ isHost hb (askM h imq rs vals).1 sh')) := by
  obtain ⟨tl, htl⟩ : ∃ x, vals.map W.t = x := ⟨_, rfl⟩
  have hll : tl.length = vals.length := by rw [← htl]; simp
  rw [htl] at hsig
  have hm00 := hm
  obtain ⟨sa, sc, fc, ss, sf, rfl, hst, hfr⟩ := hm
  refine Spec_flat ?_
  simp only [List.cons_append, List.nil_append]
  refine Spec_enter Tryz.func132 rfl Tryz.ntmps132 rfl ?_
  show SP _ _ _ _ _ [(0, _), (1, _), (2, _)] _
  refine SP_seq ?_
  refine SP_region ?_
  refine SPL_y (y_move rfl) rfl ?_
  refine SPL_y (y_nil rfl) rfl ?_
  refine SPL_y (y_fa fld_93_0 rfl) rfl ?_
  refine SPL_y (y_load Tryz.isAgg45 rfl (by repeat (first | exact Cell.head rfl | apply Cell.tail))) rfl ?_
  refine SPL_y (y_move rfl) rfl ?_
  refine SPL_one rfl (SP1_call ((by have := prep_Sig pb pfa P steps sp imq hp; rw [hsig] at this; exact this)) Tryz.call18 rfl rfl (by repeat (first | exact Part.nil _ | (apply Part.cons; (first | exact P0 | exact P1 | exact P2 | exact P3 | exact P4 | exact P5 | exact P6 | exact P7 | exact P8 | exact P9 | exact P10 | exact P11 | exact P12 | exact P13 | exact P14 | exact P15 | exact P16 | exact P17 | exact P18 | exact P19 | exact P20 | exact P21 | exact P22 | exact P23)) | (apply Part.flat; simp only [List.cons_append, List.nil_append]) | (apply Part.nilc))) ?_)
  rintro v post H' ⟨rfl, rfl⟩ hH
  try simp only [List.cons_append, List.nil_append] at hH
  subst hH
  refine SPL_y (y_move rfl) rfl ?_
  refine SPL_y (y_ext rfl rfl) rfl ?_
  refine SPL_y (y_ext rfl rfl) rfl ?_
  refine SPL_y (y_ext rfl rfl) rfl ?_
  refine SPL_y (y_ext rfl rfl) rfl ?_
  refine SPL_y (y_assign rfl) rfl ?_
  refine SPL_y (y_assign rfl) rfl ?_
  refine SPL_y (y_assign rfl) rfl ?_
  refine SPL_y (y_assign rfl) rfl ?_
  refine SPL_nil ?_
  refine thenP_n ?_
  refine SP_seq ?_
  refine SP_region ?_
  refine SPL_y (y_move rfl) rfl ?_
  refine SPL_one rfl (SP1_call (run_needT 10) Tryz.call126 rfl rfl (by repeat (first | exact Part.nil _ | (apply Part.cons; (first | exact P0 | exact P1 | exact P2 | exact P3 | exact P4 | exact P5 | exact P6 | exact P7 | exact P8 | exact P9 | exact P10 | exact P11 | exact P12 | exact P13 | exact P14 | exact P15 | exact P16 | exact P17 | exact P18 | exact P19 | exact P20 | exact P21 | exact P22 | exact P23)) | (apply Part.flat; simp only [List.cons_append, List.nil_append]) | (apply Part.nilc))) ?_)
  rintro v post H' ⟨rfl, rfl⟩ hH
  try simp only [List.cons_append, List.nil_append] at hH
  subst hH
  refine SPL_nil ?_
  refine thenP_n ?_
  refine SP_seq ?_
  refine SP_part (H' := [List.flatten [blk x 93 [.pointer (some ⟨pb, 0, none⟩), kv, .slice sa i.st.length sc, .slice fa i.fr.length fc, I i.used, I i.high], ss, sf], sp, sh]) (by repeat (first | exact Part.nil _ | (apply Part.cons; (first | exact P0 | exact P1 | exact P2 | exact P3 | exact P4 | exact P5 | exact P6 | exact P7 | exact P8 | exact P9 | exact P10 | exact P11 | exact P12 | exact P13 | exact P14 | exact P15 | exact P16 | exact P17 | exact P18 | exact P19 | exact P20 | exact P21 | exact P22 | exact P23)) | (apply Part.flat; simp only [List.cons_append, List.nil_append]) | (apply Part.nilc))) ?_
  obtain ⟨s, hs⟩ : ∃ z, List.flatten [blk x 93 [.pointer (some ⟨pb, 0, none⟩), kv, .slice sa i.st.length sc, .slice fa i.fr.length fc, I i.used, I i.high], ss, sf] = z := ⟨_, rfl⟩
  rw [hs] at hm00 ⊢
  refine SP_region ?_
  refine SPL_y (y_move rfl) rfl ?_
  refine SPL_y (y_len_s Tryz.underlying9 rfl) rfl ?_
  rw [hll]
  refine SPL_one rfl (SP1_make el_35 rfl (by omega) rfl ?_)
  intro b35
  rw [show (List.replicate vals.length [Value.int .u8 0, .int .i64 0]).flatten = (List.replicate vals.length zval).flatten ++ ((vals.drop vals.length).map W.val).flatMap valV by rw [List.drop_length]; simp [zval]]
  refine SPL_y (y_assign rfl) rfl ?_
  refine SPL_nil ?_
  refine thenP_n ?_
  refine SP_seq ?_
  refine SP_seq ?_
  refine SP_region ?_
  refine SPL_y (y_move rfl) rfl ?_
  refine SPL_y (y_len_s Tryz.underlying9 rfl) rfl ?_
  rw [hll]
  refine SPL_y (y_sub rfl rfl (by omega)) rfl ?_
  refine SPL_y (y_assign rfl) rfl ?_
  refine SPL_nil ?_
  refine thenP_n ?_
  refine SP_block ?_
  refine SP_loop (G := Nat × Seg) (fun g => g.1) (fun g => [(0, .pointer (some ⟨x, 0, none⟩)), (1, I imq), (2, .iface 135 (.pointer (some ⟨hb, 0, none⟩))), (6, S tl), (7, S rs), (10, .slice (some ⟨b35, 0, none⟩) vals.length vals.length), (11, I ((g.1 : Int) - 1))]) (fun g => [blk b35 110 ((List.replicate g.1 zval).flatten ++ ((vals.drop g.1).map W.val).flatMap valV), g.2, sp, sh]) (fun g => g.1 ≤ vals.length ∧ isInst x (.pointer (some ⟨pb, 0, none⟩)) kv fa { i with st := rest ++ vals.take g.1 } g.2) (⟨vals.length, s⟩) (⟨Nat.le_refl _, by rw [List.take_length, ← hst0]; exact hm00⟩) (by repeat (first | exact Sub.nil _ | refine Sub.cons rfl ?_)) (by repeat (first | exact Part.nil _ | (apply Part.cons; (first | exact P0 | exact P1 | exact P2 | exact P3 | exact P4 | exact P5 | exact P6 | exact P7 | exact P8 | exact P9 | exact P10 | exact P11 | exact P12 | exact P13 | exact P14 | exact P15 | exact P16 | exact P17 | exact P18 | exact P19 | exact P20 | exact P21 | exact P22 | exact P23)) | (apply Part.flat; simp only [List.cons_append, List.nil_append]) | (apply Part.nilc))) ?_
  rintro ⟨m, s⟩ ⟨hml, hm⟩
  dsimp only at hml hm ⊢
  refine SP_seq ?_
  refine SP_seq ?_
  refine SP_region ?_
  refine SPL_y (y_move rfl) rfl ?_
  refine SPL_if (y_geq rfl rfl) rfl ?_ ?_
  · intro h4_1
    refine SPL_nil ?_
    refine thenP_n ?_
    refine SP_cond_t rfl ?_
    refine SP_skip ?_
    refine thenP_n ?_
    refine SP_seq ?_
    refine SP_block ?_
    refine SP_seq ?_
    obtain ⟨k, rfl⟩ : ∃ k, m = k + 1 := ⟨m - 1, by omega⟩
    have hkl : k < vals.length := by omega
    rw [show (((k + 1 : Nat) : Int) - 1) = (k : Int) by omega]
    have htk : tl[k]'(by omega) = vals[k].t := by simp [← htl]
    refine SP_region ?_
    refine SPL_y (y_move rfl) rfl ?_
    refine SPL_y (y_move rfl) rfl ?_
    refine SPL_y (y_move rfl) rfl ?_
    refine SPL_y (y_idx_s Tryz.underlying9 rfl rfl (by omega) (c := vals[k].t) (by rw [show ((k : Nat) : Int).toNat = k by omega, List.getElem?_eq_getElem (by omega), htk])) rfl ?_
    refine SPL_one rfl (SP1_call (run_num x (.pointer (some ⟨pb, 0, none⟩)) kv fa { i with st := rest ++ vals.take (k + 1) } s hm hN (by have := hz; dsimp only; rw [hst0] at this; simp only [List.length_append, List.length_take] at this ⊢; omega) vals[k] (hvs _ (List.getElem_mem hkl)) (rest ++ vals.take k) (fun h => Nat.le_trans (hfloor h) (by simp)) (by dsimp only; rw [List.take_succ_eq_append_getElem hkl, List.append_assoc])) Tryz.call134 rfl rfl (by repeat (first | exact Part.nil _ | (apply Part.cons; (first | exact P0 | exact P1 | exact P2 | exact P3 | exact P4 | exact P5 | exact P6 | exact P7 | exact P8 | exact P9 | exact P10 | exact P11 | exact P12 | exact P13 | exact P14 | exact P15 | exact P16 | exact P17 | exact P18 | exact P19 | exact P20 | exact P21 | exact P22 | exact P23)) | (apply Part.flat; simp only [List.cons_append, List.nil_append]) | (apply Part.nilc))) ?_)
    rintro v post H' ⟨s1, rfl, rfl, hm1⟩ hH
    try simp only [List.cons_append, List.nil_append] at hH
    subst hH
    refine SPL_y (y_assign rfl) rfl ?_
    refine SPL_nil ?_
    refine thenP_n ?_
    refine SP_region ?_
    refine SPL_y (y_move rfl) rfl ?_
    refine SPL_y (y_move rfl) rfl ?_
    refine SPL_y (y_move rfl) rfl ?_
    refine SPL_y (y_move rfl) rfl ?_
    refine SPL_y (y_idx_s Tryz.underlying9 rfl rfl (by omega) (c := vals[k].t) (by rw [show ((k : Nat) : Int).toNat = k by omega, List.getElem?_eq_getElem (by omega), htk])) rfl ?_
    refine SPL_y (y_move rfl) rfl ?_
    refine SPL_y (y_build B110 rfl rfl (by simp only [fillL, List.foldl_cons, List.foldl_nil, List.set_cons_zero, List.set_cons_succ]; exact rfl)) rfl ?_
    refine SPL_y (y_ia Tryz.underlying35 Tryz.sizeOf110 rfl rfl (by omega)) rfl ?_
    refine SPL_one rfl (SP1_stores (vs := valV vals[k].val) (l' := (List.replicate k zval).flatten ++ ((vals.drop k).map W.val).flatMap valV) Tryz.sizeOf110 rfl rfl rfl rfl (by simp [valV]; exact ⟨rfl, rfl⟩) (by first | exact U0 | exact U1 | exact U2 | exact U3 | exact U4 | exact U5 | exact U6 | exact U7 | exact U8 | exact U9 | exact U10 | exact U11 | exact U12 | exact U13 | exact U14 | exact U15 | exact U16 | exact U17 | exact U18 | exact U19 | exact U20 | exact U21 | exact U22 | exact U23) (by rw [List.length_append, zval_len]; simp only [valV, List.length_cons, List.length_nil]; omega) (by rw [ask_put rfl, List.drop_eq_getElem_cons hkl, List.map_cons, List.flatMap_cons]) ?_)
    refine SPL_nil ?_
    refine inBlockP_n ?_
    refine thenP_n ?_
    refine SP_region ?_
    refine SPL_y (y_move rfl) rfl ?_
    refine SPL_y (y_sub rfl rfl (by omega)) rfl ?_
    refine SPL_y (y_assign rfl) rfl ?_
    refine SPL_nil ?_
    refine thenP_n ?_
    exact Again.intro (⟨k, s1⟩) (⟨by dsimp only; omega, hm1⟩) (by dsimp only; omega) (by repeat (first | exact Sub.nil _ | refine Sub.cons rfl ?_)) (by repeat (first | exact Part.nil _ | (apply Part.cons; (first | exact P0 | exact P1 | exact P2 | exact P3 | exact P4 | exact P5 | exact P6 | exact P7 | exact P8 | exact P9 | exact P10 | exact P11 | exact P12 | exact P13 | exact P14 | exact P15 | exact P16 | exact P17 | exact P18 | exact P19 | exact P20 | exact P21 | exact P22 | exact P23)) | (apply Part.flat; simp only [List.cons_append, List.nil_append]) | (apply Part.nilc)))
  intro h4_1
  refine SPL_nil ?_
  refine thenP_n ?_
  refine SP_cond_f rfl ?_
  refine SP_exit ?_
  refine thenP_exit ?_
  refine thenP_exit ?_
  refine inBlockP_hit ?_
  refine thenP_n ?_
  refine SP_seq ?_
  refine SP_region ?_
  refine SPL_y (y_move rfl) rfl ?_
  refine SPL_y (y_ine_nil (c := true) Tryz.underlying134 rfl rfl) rfl ?_
  refine SPL_one rfl (SP1_call (run_needT 15) Tryz.call126 rfl rfl (by repeat (first | exact Part.nil _ | (apply Part.cons; (first | exact P0 | exact P1 | exact P2 | exact P3 | exact P4 | exact P5 | exact P6 | exact P7 | exact P8 | exact P9 | exact P10 | exact P11 | exact P12 | exact P13 | exact P14 | exact P15 | exact P16 | exact P17 | exact P18 | exact P19 | exact P20 | exact P21 | exact P22 | exact P23)) | (apply Part.flat; simp only [List.cons_append, List.nil_append]) | (apply Part.nilc))) ?_)
  rintro v post H' ⟨rfl, rfl⟩ hH
  try simp only [List.cons_append, List.nil_append] at hH
  subst hH
  refine SPL_nil ?_
  refine thenP_n ?_
  refine SP_seq ?_
  obtain rfl : m = 0 := by omega
  rw [List.take_zero, List.append_nil] at hm
  rw [show (List.replicate 0 zval).flatten ++ ((vals.drop 0).map W.val).flatMap valV = (vals.map W.val).flatMap valV from rfl]
  have hargs : Arr 110 2 (some ⟨b35, 0, none⟩) (vals.map W.val).length vals.length ((vals.map W.val).flatMap valV) (blk b35 110 ((vals.map W.val).flatMap valV)) := by
    have : Arr 110 2 (some ⟨b35, 0, none⟩) (vals.map W.val).length (vals.map W.val).length ((vals.map W.val).flatMap valV) (blk b35 110 ((vals.map W.val).flatMap valV)) := Arr.full (flat_len valV_len _)
    rwa [List.length_map] at this ⊢
  have hrg : ∀ y, y ∈ vals.map W.val → -9223372036854775808 ≤ y.v ∧ y.v ≤ 9223372036854775807 := fun y hy => by
    obtain ⟨z, hz, rfl⟩ := List.mem_map.1 hy
    exact W.ok_rng (hvs z hz)
  have hspec := tape_Call hb h sh hh hk imq him _ _ _ _ hargs hb1 hb2 (by simp; omega) hb4 hb5 hb6 hrg
  obtain ⟨r, hr⟩ : ∃ r, hostCall h imq (vals.map W.val) = r := ⟨_, rfl⟩
  have hkr : r.1.kind = 0 := by rw [← hr]; unfold hostCall; split; exact hk; split <;> exact hk
  rw [hr, List.length_map] at hspec
  obtain ⟨r1, ans, er⟩ := r
  dsimp only at hspec hkr
  refine SP_region ?_
  refine SPL_y (y_move rfl) rfl ?_
  refine SPL_y (y_move rfl) rfl ?_
  refine SPL_y (y_move rfl) rfl ?_
  refine SPL_one rfl (SP1_invoke (rv := .pointer (some ⟨hb, 0, none⟩)) (args := [I imq, .slice (some ⟨b35, 0, none⟩) vals.length vals.length]) rfl (callM _) hspec rfl rfl (by repeat (first | exact Part.nil _ | (apply Part.cons; (first | exact P0 | exact P1 | exact P2 | exact P3 | exact P4 | exact P5 | exact P6 | exact P7 | exact P8 | exact P9 | exact P10 | exact P11 | exact P12 | exact P13 | exact P14 | exact P15 | exact P16 | exact P17 | exact P18 | exact P19 | exact P20 | exact P21 | exact P22 | exact P23)) | (apply Part.flat; simp only [List.cons_append, List.nil_append]) | (apply Part.nilc))) ?_)
  rintro v post H' ⟨aa, ac, sh', san, rfl, rfl, hT, hA⟩ hH
  simp only [List.cons_append, List.nil_append] at hH
  subst hH
  refine SPL_y (y_move rfl) rfl ?_
  refine SPL_y (y_ext rfl rfl) rfl ?_
  refine SPL_y (y_ext rfl rfl) rfl ?_
  refine SPL_y (y_assign rfl) rfl ?_
  refine SPL_y (y_assign rfl) rfl ?_
  refine SPL_nil ?_
  refine thenP_n ?_
  refine SP_seq ?_
  refine SP_seq ?_
  refine SP_region ?_
  refine SPL_y (y_move rfl) rfl ?_
  refine SPL_y (y_assertR rfl (asTall er)) rfl ?_
  refine SPL_y (y_move rfl) rfl ?_
  refine SPL_y (y_ext rfl rfl) rfl ?_
  refine SPL_y (y_ext rfl rfl) rfl ?_
  refine SPL_y (y_assign rfl) rfl ?_
  refine SPL_y (y_assign rfl) rfl ?_
  refine SPL_nil ?_
  refine thenP_n ?_
  refine SP_seq ?_
  refine SP_region ?_
  refine SPL_y (y_move rfl) rfl ?_
  refine SPL_nil ?_
  refine thenP_n ?_
  refine SP_cond_b rfl ?_ ?_
  · intro hc71
    refine SP_seq ?_
    have hk1 : er.kind = 1 := of_decide_eq_true hc71
    rw [if_pos hk1]
    refine SP_region ?_
    refine SPL_y (y_move rfl) rfl ?_
    refine SPL_one rfl (SP1_invoke (rv := I er.e) (args := []) rfl (trapM _) (errno_Trap er.e) rfl rfl (by repeat (first | exact Part.nil _ | (apply Part.cons; (first | exact P0 | exact P1 | exact P2 | exact P3 | exact P4 | exact P5 | exact P6 | exact P7 | exact P8 | exact P9 | exact P10 | exact P11 | exact P12 | exact P13 | exact P14 | exact P15 | exact P16 | exact P17 | exact P18 | exact P19 | exact P20 | exact P21 | exact P22 | exact P23)) | (apply Part.flat; simp only [List.cons_append, List.nil_append]) | (apply Part.nilc))) ?_)
    rintro v post H' ⟨rfl, rfl⟩ hH
    simp only [List.cons_append, List.nil_append] at hH
    subst hH
    refine SPL_y (y_assign rfl) rfl ?_
    refine SPL_nil ?_
    refine thenP_n ?_
    refine SP_seq ?_
    refine SP_region ?_
    refine SPL_y (y_move rfl) rfl ?_
    refine SPL_ifn (y_geq rfl rfl) rfl ?_ ?_
    · intro h13_1
      refine SPL_y (y_move rfl) rfl ?_
      refine SPL_gn rfl rfl rfl rfl ?_
      refine SPL_gn rfl rfl rfl rfl ?_
      refine SPL_y (y_pick_f rfl rfl) rfl ?_
      refine SPL_one rfl (SP1_callp (run_needF 15) Tryz.call126 rfl rfl (by repeat (first | exact Part.nil _ | (apply Part.cons; (first | exact P0 | exact P1 | exact P2 | exact P3 | exact P4 | exact P5 | exact P6 | exact P7 | exact P8 | exact P9 | exact P10 | exact P11 | exact P12 | exact P13 | exact P14 | exact P15 | exact P16 | exact P17 | exact P18 | exact P19 | exact P20 | exact P21 | exact P22 | exact P23)) | (apply Part.flat; simp only [List.cons_append, List.nil_append]) | (apply Part.nilc))) ?_ ?_)
      · rintro c post H' ⟨rfl, rfl⟩ hH
        try simp only [List.cons_append, List.nil_append] at hH
        subst hH
        refine thenP_panic (thenP_panic (bodyP_panic (H' := [s, sp, sh']) (by repeat (first | exact Part.nil _ | (apply Part.cons; (first | exact P0 | exact P1 | exact P2 | exact P3 | exact P4 | exact P5 | exact P6 | exact P7 | exact P8 | exact P9 | exact P10 | exact P11 | exact P12 | exact P13 | exact P14 | exact P15 | exact P16 | exact P17 | exact P18 | exact P19 | exact P20 | exact P21 | exact P22 | exact P23)) | (apply Part.flat; simp only [List.cons_append, List.nil_append]) | (apply Part.nilc))) ?_))
        have ht : trapOf er = 15 := by unfold trapOf; rw [if_neg (by omega), if_neg (by omega)]
        have e : askM h imq rs vals = (r1, 15, []) := by
          unfold askM; rw [if_neg (by omega), hr]; dsimp only; rw [ht, if_pos (by decide)]
        rw [e]
        exact ⟨s, sh', _, rfl, (by show (15 : Int) ≠ 0; decide), rfl, hm, by unfold isHost; rw [if_pos hkr]; exact hT⟩
      rintro v post H' hF
      exact hF.elim
    intro h13_1
    refine SPL_y (y_move rfl) rfl ?_
    refine SPL_gy rfl rfl ?_
    refine SPL_y (y_move rfl) rfl ?_
    refine SPL_gy rfl rfl ?_
    refine SPL_y (y_lss rfl rfl) rfl ?_
    refine SPL_y (y_pick_t rfl rfl) rfl ?_
    refine SPL_one rfl (SP1_callp (run_need _ 15) Tryz.call126 rfl rfl (by repeat (first | exact Part.nil _ | (apply Part.cons; (first | exact P0 | exact P1 | exact P2 | exact P3 | exact P4 | exact P5 | exact P6 | exact P7 | exact P8 | exact P9 | exact P10 | exact P11 | exact P12 | exact P13 | exact P14 | exact P15 | exact P16 | exact P17 | exact P18 | exact P19 | exact P20 | exact P21 | exact P22 | exact P23)) | (apply Part.flat; simp only [List.cons_append, List.nil_append]) | (apply Part.nilc))) ?_ ?_)
    · rintro c post H' ⟨hok, rfl, rfl⟩ hH
      try simp only [List.cons_append, List.nil_append] at hH
      subst hH
      refine thenP_panic (thenP_panic (bodyP_panic (H' := [s, sp, sh']) (by repeat (first | exact Part.nil _ | (apply Part.cons; (first | exact P0 | exact P1 | exact P2 | exact P3 | exact P4 | exact P5 | exact P6 | exact P7 | exact P8 | exact P9 | exact P10 | exact P11 | exact P12 | exact P13 | exact P14 | exact P15 | exact P16 | exact P17 | exact P18 | exact P19 | exact P20 | exact P21 | exact P22 | exact P23)) | (apply Part.flat; simp only [List.cons_append, List.nil_append]) | (apply Part.nilc))) ?_))
      have h18 : ¬ er.e < 18 := of_decide_eq_false hok
      have ht : trapOf er = 15 := by unfold trapOf; rw [if_neg (by omega), if_neg (by omega)]
      have e : askM h imq rs vals = (r1, 15, []) := by
        unfold askM; rw [if_neg (by omega), hr]; dsimp only; rw [ht, if_pos (by decide)]
      rw [e]
      exact ⟨s, sh', _, rfl, (by show (15 : Int) ≠ 0; decide), rfl, hm, by unfold isHost; rw [if_pos hkr]; exact hT⟩
    rintro v post H' ⟨hok, rfl, rfl⟩ hH
    try simp only [List.cons_append, List.nil_append] at hH
    subst hH
    have h18 : er.e < 18 := of_decide_eq_true hok
    refine SPL_nil ?_
    refine thenP_n ?_
    refine SP_region ?_
    refine SPL_y (y_move rfl) rfl ?_
    refine SPL_y (y_mki Tryz.underlying206 rfl rfl) rfl ?_
    refine SPL_one rfl (SP1_panic rfl ?_)
    refine thenP_panic (bodyP_panic (H' := [s, sp, sh']) (by repeat (first | exact Part.nil _ | (apply Part.cons; (first | exact P0 | exact P1 | exact P2 | exact P3 | exact P4 | exact P5 | exact P6 | exact P7 | exact P8 | exact P9 | exact P10 | exact P11 | exact P12 | exact P13 | exact P14 | exact P15 | exact P16 | exact P17 | exact P18 | exact P19 | exact P20 | exact P21 | exact P22 | exact P23)) | (apply Part.flat; simp only [List.cons_append, List.nil_append]) | (apply Part.nilc))) ?_)
    have ht : trapOf er = er.e := by unfold trapOf; rw [if_neg (by omega), if_pos (by omega)]
    have e : askM h imq rs vals = (r1, er.e, []) := by
      unfold askM; rw [if_neg (by omega), hr]; dsimp only; rw [ht, if_pos (by omega)]
    rw [e]
    exact ⟨s, sh', _, rfl, by dsimp only; omega, rfl, hm, by unfold isHost; rw [if_pos hkr]; exact hT⟩
  intro hc71
  refine SP_skip ?_
  refine thenP_n ?_
  refine SP_seq ?_
  have hk1 : ¬ er.kind = 1 := of_decide_eq_false hc71
  refine SP_region ?_
  refine SPL_y (y_move rfl) rfl ?_
  refine SPL_y (y_ieq_nil (c := decide (er.kind = 0)) Tryz.underlying39 rfl (herr_nil hk1)) rfl ?_
  refine SPL_one rfl (SP1_callp (run_need _ 15) Tryz.call126 rfl rfl (by repeat (first | exact Part.nil _ | (apply Part.cons; (first | exact P0 | exact P1 | exact P2 | exact P3 | exact P4 | exact P5 | exact P6 | exact P7 | exact P8 | exact P9 | exact P10 | exact P11 | exact P12 | exact P13 | exact P14 | exact P15 | exact P16 | exact P17 | exact P18 | exact P19 | exact P20 | exact P21 | exact P22 | exact P23)) | (apply Part.flat; simp only [List.cons_append, List.nil_append]) | (apply Part.nilc))) ?_ ?_)
  · rintro c post H' ⟨hok, rfl, rfl⟩ hH
    try simp only [List.cons_append, List.nil_append] at hH
    subst hH
    refine thenP_panic (bodyP_panic (H' := [s, sp, sh']) (by repeat (first | exact Part.nil _ | (apply Part.cons; (first | exact P0 | exact P1 | exact P2 | exact P3 | exact P4 | exact P5 | exact P6 | exact P7 | exact P8 | exact P9 | exact P10 | exact P11 | exact P12 | exact P13 | exact P14 | exact P15 | exact P16 | exact P17 | exact P18 | exact P19 | exact P20 | exact P21 | exact P22 | exact P23)) | (apply Part.flat; simp only [List.cons_append, List.nil_append]) | (apply Part.nilc))) ?_)
    have hk0 : ¬ er.kind = 0 := of_decide_eq_false hok
    have ht : trapOf er = 15 := by unfold trapOf; rw [if_neg (by omega), if_neg (by omega)]
    have e : askM h imq rs vals = (r1, 15, []) := by
      unfold askM; rw [if_neg (by omega), hr]; dsimp only; rw [ht, if_pos (by decide)]
    rw [e]
    exact ⟨s, sh', _, rfl, (by show (15 : Int) ≠ 0; decide), rfl, hm, by unfold isHost; rw [if_pos hkr]; exact hT⟩
  rintro v post H' ⟨hok, rfl, rfl⟩ hH
  try simp only [List.cons_append, List.nil_append] at hH
  subst hH
  have hk0 : er.kind = 0 := of_decide_eq_true hok
  refine SPL_nil ?_
  refine thenP_n ?_
  refine SP_seq ?_
  refine SP_region ?_
  refine SPL_y (y_move rfl) rfl ?_
  refine SPL_y (y_len_l Tryz.underlying35 rfl) rfl ?_
  refine SPL_y (y_move rfl) rfl ?_
  refine SPL_y (y_len_s Tryz.underlying9 rfl) rfl ?_
  refine SPL_y (y_eql rfl rfl) rfl ?_
  refine SPL_one rfl (SP1_callp (run_need _ 15) Tryz.call126 rfl rfl (by repeat (first | exact Part.nil _ | (apply Part.cons; (first | exact P0 | exact P1 | exact P2 | exact P3 | exact P4 | exact P5 | exact P6 | exact P7 | exact P8 | exact P9 | exact P10 | exact P11 | exact P12 | exact P13 | exact P14 | exact P15 | exact P16 | exact P17 | exact P18 | exact P19 | exact P20 | exact P21 | exact P22 | exact P23)) | (apply Part.flat; simp only [List.cons_append, List.nil_append]) | (apply Part.nilc))) ?_ ?_)
  · rintro c post H' ⟨hok, rfl, rfl⟩ hH
    try simp only [List.cons_append, List.nil_append] at hH
    subst hH
    refine thenP_panic (bodyP_panic (H' := [s, sp, sh']) (by repeat (first | exact Part.nil _ | (apply Part.cons; (first | exact P0 | exact P1 | exact P2 | exact P3 | exact P4 | exact P5 | exact P6 | exact P7 | exact P8 | exact P9 | exact P10 | exact P11 | exact P12 | exact P13 | exact P14 | exact P15 | exact P16 | exact P17 | exact P18 | exact P19 | exact P20 | exact P21 | exact P22 | exact P23)) | (apply Part.flat; simp only [List.cons_append, List.nil_append]) | (apply Part.nilc))) ?_)
    have hal : ¬ ans.length = rs.length := by have := of_decide_eq_false hok; omega
    have hfa : fitsAll ans rs = false := by
      cases hx : fitsAll ans rs with
      | false => rfl
      | true => exact absurd (fitsAll_len hx) hal
    have e : askM h imq rs vals = (r1, 15, []) := by
      unfold askM; rw [if_neg (by omega), hr]; dsimp only; rw [if_neg (by unfold trapOf; rw [if_pos hk0]; simp), if_pos hfa]
    rw [e]
    exact ⟨s, sh', _, rfl, (by show (15 : Int) ≠ 0; decide), rfl, hm, by unfold isHost; rw [if_pos hkr]; exact hT⟩
  rintro v post H' ⟨hok, rfl, rfl⟩ hH
  try simp only [List.cons_append, List.nil_append] at hH
  subst hH
  have hal : ans.length = rs.length := by have := of_decide_eq_true hok; omega
  refine SPL_nil ?_
  refine thenP_n ?_
  refine SP_seq ?_
  obtain ⟨sa, sc, fc, ss, sf, rfl, hst, hfr⟩ := hm
  refine SP_open (by first | exact P0 | exact P1 | exact P2 | exact P3 | exact P4 | exact P5 | exact P6 | exact P7 | exact P8 | exact P9 | exact P10 | exact P11 | exact P12 | exact P13 | exact P14 | exact P15 | exact P16 | exact P17 | exact P18 | exact P19 | exact P20 | exact P21 | exact P22 | exact P23) ?_
  simp only [List.cons_append, List.nil_append]
  rw [show rest.length = (rest ++ (ans.take 0).map fun v => word v.t v.v).length by simp]
  refine SP_region ?_
  refine SPL_y (y_move rfl) rfl ?_
  refine SPL_y (y_len_l Tryz.underlying35 rfl) rfl ?_
  refine SPL_y (y_move rfl) rfl ?_
  refine SPL_nil ?_
  refine thenP_n ?_
  refine SP_block ?_
  refine SP_loop (G := Nat × Option Addr × Nat × Seg) (fun g => ans.length - g.1) (fun g => [(0, .pointer (some ⟨x, 0, none⟩)), (7, S rs), (92, .slice aa ans.length ac), (93, I ans.length), (94, I (g.1 : Nat))]) (fun g => [blk x 93 [.pointer (some ⟨pb, 0, none⟩), kv, .slice g.2.1 (rest ++ (ans.take g.1).map fun v => word v.t v.v).length g.2.2.1, .slice fa i.fr.length fc, I i.used, I i.high], g.2.2.2, sf, sp, sh', san]) (fun g => g.1 ≤ ans.length ∧ Arr 209 1 g.2.1 (rest ++ (ans.take g.1).map fun v => word v.t v.v).length g.2.2.1 ((rest ++ (ans.take g.1).map fun v => word v.t v.v).map W.v) g.2.2.2 ∧ ∀ (q : Nat) (h1 : q < ans.length) (h2 : q < rs.length), q < g.1 → fits ans[q] rs[q] = true) (⟨0, sa, sc, ss⟩) (⟨Nat.zero_le _, by simpa using hst, fun q _ _ h => by simp at h⟩) (by repeat (first | exact Sub.nil _ | refine Sub.cons rfl ?_)) (by repeat (first | exact Part.nil _ | (apply Part.cons; (first | exact P0 | exact P1 | exact P2 | exact P3 | exact P4 | exact P5 | exact P6 | exact P7 | exact P8 | exact P9 | exact P10 | exact P11 | exact P12 | exact P13 | exact P14 | exact P15 | exact P16 | exact P17 | exact P18 | exact P19 | exact P20 | exact P21 | exact P22 | exact P23)) | (apply Part.flat; simp only [List.cons_append, List.nil_append]) | (apply Part.nilc))) ?_
  rintro ⟨j, sa, sc, ss⟩ ⟨hj, hst, hfit⟩
  dsimp only at hj hst hfit ⊢
  refine SP_seq ?_
  refine SP_region ?_
  refine SPL_ifn (y_lss rfl rfl) rfl ?_ ?_
  · intro h18_0
    refine SPL_nil ?_
    refine thenP_n ?_
    refine SP_seq ?_
    refine SP_cond_f rfl ?_
    refine SP_exit ?_
    refine thenP_exit ?_
    refine thenP_exit ?_
    refine inBlockP_hit ?_
    refine bodyP_end (H' := [List.flatten [blk x 93 [.pointer (some ⟨pb, 0, none⟩), kv, .slice sa (rest ++ (ans.take j).map fun v => word v.t v.v).length sc, .slice fa i.fr.length fc, I i.used, I i.high], ss, sf], sp, sh']) (Res0 rfl) (by repeat (first | exact Part.nil _ | (apply Part.cons; (first | exact P0 | exact P1 | exact P2 | exact P3 | exact P4 | exact P5 | exact P6 | exact P7 | exact P8 | exact P9 | exact P10 | exact P11 | exact P12 | exact P13 | exact P14 | exact P15 | exact P16 | exact P17 | exact P18 | exact P19 | exact P20 | exact P21 | exact P22 | exact P23)) | (apply Part.flat; simp only [List.cons_append, List.nil_append]) | (apply Part.nilc))) ?_
    obtain rfl : j = ans.length := by omega
    rw [List.take_length] at hst ⊢
    have hfa : fitsAll ans rs = true := (fitsAll_iff hal).2 fun q h1 h2 => hfit q h1 h2 h1
    have e : askM h imq rs vals = (r1, 0, ans.map fun v => word v.t v.v) := by
      unfold askM; rw [if_neg (by omega), hr]; dsimp only; rw [if_neg (by unfold trapOf; rw [if_pos hk0]; simp), if_neg (by rw [hfa]; decide)]
    rw [e]
    exact ⟨_, sh', rfl, rfl, rfl, ⟨sa, sc, fc, ss, sf, rfl, hst, hfr⟩, by unfold isHost; rw [if_pos hkr]; exact hT⟩
  intro h18_0
  refine SPL_nil ?_
  refine thenP_n ?_
  refine SP_seq ?_
  refine SP_cond_t rfl ?_
  refine SP_skip ?_
  refine thenP_n ?_
  refine SP_seq ?_
  refine SP_block ?_
  refine SP_seq ?_
  have hji : j < ans.length := by omega
  obtain ⟨ab, asp, rfl, hac, hasp, rfl⟩ := hA.row (by omega)
  refine SP_region ?_
  refine SPL_y (y_move rfl) rfl ?_
  refine SPL_y (y_ia Tryz.underlying35 Tryz.sizeOf110 rfl rfl (by omega)) rfl ?_
  refine SPL_y (y_loads Tryz.isAgg110 Tryz.sizeOf110 rfl rfl (by repeat (first | exact Cells.elem (j := (j : Int)) valV_len (i := j) (by omega) hji | apply Cells.tail))) rfl ?_
  refine SPL_one rfl (SP1_alloc Tryz.zeroValue110 rfl rfl ?_)
  intro b19
  refine SPL_y (y_assign rfl) rfl ?_
  refine SPL_one rfl (SP1_storeAll Tryz.sizeOf110 rfl rfl rfl rfl rfl (by first | exact U0 | exact U1 | exact U2 | exact U3 | exact U4 | exact U5 | exact U6 | exact U7 | exact U8 | exact U9 | exact U10 | exact U11 | exact U12 | exact U13 | exact U14 | exact U15 | exact U16 | exact U17 | exact U18 | exact U19 | exact U20 | exact U21 | exact U22 | exact U23) (by rfl) ?_)
  refine SPL_nil ?_
  refine thenP_n ?_
  refine SP_seq ?_
  refine SP_draw 4 [(1, 0), (2, 0), (3, 0), (0, 1), (4, 3), (5, 0)] mixed (by kernel_rfl) (fun _ _ _ _ _ h => h) (Part.refl _) ?_
  refine SPO_p rfl (y_move rfl) rfl ?_
  refine SPO_p rfl (y_move rfl) rfl ?_
  refine SPO_p rfl (y_idx_s Tryz.underlying9 rfl rfl (by omega) (getN (by omega))) rfl ?_
  refine SPO_h rfl (y_loads Tryz.isAgg110 Tryz.sizeOf110 rfl rfl (by repeat (first | exact Cells.all _ | exact Cells.head rfl | apply Cells.tail))) rfl ?_
  refine SPO_z (k := 0) rfl rfl (SP1_call (run_fits ans[j] rs[j]) Tryz.call86 rfl rfl (by repeat (first | exact Part.nil _ | (apply Part.cons; (first | exact P0 | exact P1 | exact P2 | exact P3 | exact P4 | exact P5 | exact P6 | exact P7 | exact P8 | exact P9 | exact P10 | exact P11 | exact P12 | exact P13 | exact P14 | exact P15 | exact P16 | exact P17 | exact P18 | exact P19 | exact P20 | exact P21 | exact P22 | exact P23)) | (apply Part.flat; simp only [List.cons_append, List.nil_append]) | (apply Part.nilc))) ?_)
  rintro v post H' ⟨rfl, rfl⟩ hH
  try simp only [List.cons_append, List.nil_append] at hH
  subst hH
  refine SPO_p rfl (y_assign rfl) rfl ?_
  refine SPO_nil ?_
  refine thenP_n ?_
  refine SP_seq ?_
  refine SP_region ?_
  refine SPL_y (y_move rfl) rfl ?_
  refine SPL_one rfl (SP1_callp (run_need _ 15) Tryz.call126 rfl rfl (by repeat (first | exact Part.nil _ | (apply Part.cons; (first | exact P0 | exact P1 | exact P2 | exact P3 | exact P4 | exact P5 | exact P6 | exact P7 | exact P8 | exact P9 | exact P10 | exact P11 | exact P12 | exact P13 | exact P14 | exact P15 | exact P16 | exact P17 | exact P18 | exact P19 | exact P20 | exact P21 | exact P22 | exact P23)) | (apply Part.flat; simp only [List.cons_append, List.nil_append]) | (apply Part.nilc))) ?_ ?_)
  · rintro c post H' ⟨hok, rfl, rfl⟩ hH
    try simp only [List.cons_append, List.nil_append] at hH
    subst hH
    refine thenP_panic (inBlockP_panic (thenP_panic (thenP_panic (inBlockP_panic (bodyP_panic (H' := [List.flatten [blk x 93 [.pointer (some ⟨pb, 0, none⟩), kv, .slice sa (rest ++ (ans.take j).map fun v => word v.t v.v).length sc, .slice fa i.fr.length fc, I i.used, I i.high], ss, sf], sp, sh']) (by repeat (first | exact Part.nil _ | (apply Part.cons; (first | exact P0 | exact P1 | exact P2 | exact P3 | exact P4 | exact P5 | exact P6 | exact P7 | exact P8 | exact P9 | exact P10 | exact P11 | exact P12 | exact P13 | exact P14 | exact P15 | exact P16 | exact P17 | exact P18 | exact P19 | exact P20 | exact P21 | exact P22 | exact P23)) | (apply Part.flat; simp only [List.cons_append, List.nil_append]) | (apply Part.nilc))) ?_)))))
    have hfa : fitsAll ans rs = false := by
      cases hx : fitsAll ans rs with
      | false => rfl
      | true => exact absurd ((fitsAll_iff hal).1 hx j hji (by omega)) (by rw [hok]; decide)
    have e : askM h imq rs vals = (r1, 15, []) := by
      unfold askM; rw [if_neg (by omega), hr]; dsimp only; rw [if_neg (by unfold trapOf; rw [if_pos hk0]; simp), if_pos hfa]
    rw [e]
    exact ⟨_, sh', _, rfl, (by show (15 : Int) ≠ 0; decide), rfl, ⟨sa, sc, fc, ss, sf, rfl, hst, hfr⟩, by unfold isHost; rw [if_pos hkr]; exact hT⟩
  rintro v post H' ⟨hok, rfl, rfl⟩ hH
  try simp only [List.cons_append, List.nil_append] at hH
  subst hH
  refine SPL_nil ?_
  refine thenP_n ?_
  refine SP_draw 11 [(0, 0), (1, 0), (2, 0), (3, 0), (5, 0), (7, 0), (4, 1), (6, 1), (8, 1), (9, 2), (10, 2), (11, 3), (12, 0), (13, 0), (14, 3)] mixed (by kernel_rfl) (fun _ _ _ _ _ h => h) (Part.refl _) ?_
  refine SPO_p rfl (y_move rfl) rfl ?_
  refine SPO_p rfl (y_move rfl) rfl ?_
  refine SPO_p rfl (y_nil rfl) rfl ?_
  refine SPO_p rfl (y_fa fld_93_2 rfl) rfl ?_
  refine SPO_p rfl (y_fa fld_110_0 rfl) rfl ?_
  refine SPO_p rfl (y_fa fld_110_1 rfl) rfl ?_
  refine SPO_h rfl (y_load Tryz.isAgg90 rfl (by repeat (first | exact Cell.head rfl | apply Cell.tail))) rfl ?_
  refine SPO_h rfl (y_load Tryz.isAgg5 rfl (by repeat (first | exact Cell.head rfl | apply Cell.tail))) rfl ?_
  refine SPO_h rfl (y_load Tryz.isAgg3 rfl (by repeat (first | exact Cell.head rfl | apply Cell.tail))) rfl ?_
  refine SPO_a rfl rfl (SP1_call (run_word ans[j].t ans[j].v) Tryz.call87 rfl rfl (by repeat (first | exact Part.nil _ | (apply Part.cons; (first | exact P0 | exact P1 | exact P2 | exact P3 | exact P4 | exact P5 | exact P6 | exact P7 | exact P8 | exact P9 | exact P10 | exact P11 | exact P12 | exact P13 | exact P14 | exact P15 | exact P16 | exact P17 | exact P18 | exact P19 | exact P20 | exact P21 | exact P22 | exact P23)) | (apply Part.flat; simp only [List.cons_append, List.nil_append]) | (apply Part.nilc))) ?_)
  rintro v post H' ⟨rfl, rfl⟩ hH
  try simp only [List.cons_append, List.nil_append] at hH
  subst hH
  refine ⟨⟨_, (by repeat (first | exact Part.nil _ | (apply Part.cons; (first | exact P0 | exact P1 | exact P2 | exact P3 | exact P4 | exact P5 | exact P6 | exact P7 | exact P8 | exact P9 | exact P10 | exact P11 | exact P12 | exact P13 | exact P14 | exact P15 | exact P16 | exact P17 | exact P18 | exact P19 | exact P20 | exact P21 | exact P22 | exact P23)) | (apply Part.flat; simp only [List.cons_append, List.nil_append]) | (apply Part.nilc)))⟩, ?_⟩
  refine SPO_a rfl rfl (SP1_slice1 el_90 rfl (W_cells _) rfl rfl rfl ?_)
  intro b116
  refine ⟨⟨_, (by repeat (first | exact Part.nil _ | (apply Part.cons; (first | exact P0 | exact P1 | exact P2 | exact P3 | exact P4 | exact P5 | exact P6 | exact P7 | exact P8 | exact P9 | exact P10 | exact P11 | exact P12 | exact P13 | exact P14 | exact P15 | exact P16 | exact P17 | exact P18 | exact P19 | exact P20 | exact P21 | exact P22 | exact P23)) | (apply Part.flat; simp only [List.cons_append, List.nil_append]) | (apply Part.nilc)))⟩, ?_⟩
  refine SPO_z (k := 0) rfl rfl (SP1_append el_90 (.inl Tryz.underlying90) rfl rfl hst (by first | exact P0 | exact P1 | exact P2 | exact P3 | exact P4 | exact P5 | exact P6 | exact P7 | exact P8 | exact P9 | exact P10 | exact P11 | exact P12 | exact P13 | exact P14 | exact P15 | exact P16 | exact P17 | exact P18 | exact P19 | exact P20 | exact P21 | exact P22 | exact P23) (Src.of (by repeat (first | exact Cells.all _ | exact Cells.head rfl | apply Cells.tail)) (by rfl)) (W_one _) (by have := hz; rw [hst0] at this; simp only [List.length_append, List.length_map, List.length_take] at this ⊢; omega) rfl ?_)
  intro a1 c1 s3 hAr
  refine SPO_p rfl (y_nil rfl) rfl ?_
  refine SPO_p rfl (y_fa fld_93_2 rfl) rfl ?_
  refine SPO_z (k := 0) rfl rfl (SP1_store Tryz.sizeOf90 rfl rfl rfl (by first | exact U0 | exact U1 | exact U2 | exact U3 | exact U4 | exact U5 | exact U6 | exact U7 | exact U8 | exact U9 | exact U10 | exact U11 | exact U12 | exact U13 | exact U14 | exact U15 | exact U16 | exact U17 | exact U18 | exact U19 | exact U20 | exact U21 | exact U22 | exact U23) (by rfl) ?_)
  refine SPO_nil ?_
  refine inBlockP_n ?_
  refine thenP_n ?_
  refine SP_region ?_
  refine SPL_y (y_add rfl rfl (by omega)) rfl ?_
  refine SPL_y (y_move rfl) rfl ?_
  refine SPL_nil ?_
  refine thenP_n ?_
  have hji : j < ans.length := by omega
  have hta : ans.take (j + 1) = ans.take j ++ [ans[j]] := List.take_succ_eq_append_getElem hji
  have he : (rest ++ (ans.take (j + 1)).map fun v => word v.t v.v) = (rest ++ (ans.take j).map fun v => word v.t v.v) ++ [word ans[j].t ans[j].v] := by rw [hta, List.map_append, ← List.append_assoc]; rfl
  have hel : (rest ++ (ans.take j).map fun v => word v.t v.v).length + 1 = (rest ++ (ans.take (j + 1)).map fun v => word v.t v.v).length := by rw [he]; simp only [List.length_append, List.length_cons, List.length_nil]
  rw [← st_snoc, ← he] at hAr
  rw [hel] at hAr ⊢
  have hfit' : ∀ (q : Nat) (h1 : q < ans.length) (h2 : q < rs.length), q < j + 1 → fits ans[q] rs[q] = true := fun q h1 h2 h3 => by
    by_cases e : q = j
    · subst e; exact hok
    · exact hfit q h1 h2 (by omega)
  exact Again.intro (⟨j + 1, a1, c1, s3⟩) (⟨by dsimp only; omega, hAr, hfit'⟩) (by dsimp only; omega) (by repeat (first | exact Sub.nil _ | refine Sub.cons rfl ?_)) (by repeat (first | exact Part.nil _ | (apply Part.cons; (first | exact P0 | exact P1 | exact P2 | exact P3 | exact P4 | exact P5 | exact P6 | exact P7 | exact P8 | exact P9 | exact P10 | exact P11 | exact P12 | exact P13 | exact P14 | exact P15 | exact P16 | exact P17 | exact P18 | exact P19 | exact P20 | exact P21 | exact P22 | exact P23)) | (apply Part.flat; simp only [List.cons_append, List.nil_append]) | (apply Part.nilc)))

end Go.Sl
