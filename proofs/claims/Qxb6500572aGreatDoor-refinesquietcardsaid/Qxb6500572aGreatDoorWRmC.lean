/- Walks: package runm, the host (made by program out of short notes) -/
import Derived.Test.Qxb6500572aGreatDoorWRmB
import Derived.Test.Qxb6500572aGreatDoorWHostB
namespace Go.Sl
open Go Go.Wl Go.Proofs
set_option maxRecDepth 100000
set_option linter.unusedVariables false
set_option linter.unusedSimpArgs false
theorem in32 {v : Int} (h1 : -9223372036854775808 ≤ v) (h2 : v ≤ 9223372036854775807) : (v = IntKind.i64.wrap (IntKind.i32.wrap v)) ↔ (-2147483648 ≤ v ∧ v < 2147483648) := by
  simp only [IntKind.wrap_i64, IntKind.wrap_i32]; omega
def toW (v : Val) : W := ⟨tw v.t, v.v⟩
theorem fits_t {v : Val} {t : UInt8} (h : fits v t = true) : v.t = t := by
  unfold fits at h
  have h1 := (of_decide_eq_true h).1
  exact UInt8.toNat_inj.1 (by omega)
theorem wv_toW {v : Val} (h : v.t = 105 ∨ v.t = 108) : wv (toW v) = valV v := by
  unfold wv toW valV W.t tw
  rcases h with e | e <;> rw [e] <;> rfl

theorem rm_Fits (v : Val) (t : UInt8) (h1 : -9223372036854775808 ≤ v.v) (h2 : v.v ≤ 9223372036854775807) : Spec Tryz.prog 106 [.agg (valV v).toArray, .int .u8 t.toNat] [] (Ret fun r H => r = .bool (fits v t) ∧ H = []) := by
  have h32 := in32 h1 h2
  refine Spec_enter Tryz.func106 rfl Tryz.ntmps106 rfl ?_
  show SP _ _ _ _ _ [(0, _), (1, _)] _
  refine SP_seq ?_
  refine SP_region ?_
  refine SPL_one rfl (SP1_box rfl rfl rfl ?_)
  intro b2
  refine SPL_y (y_assign rfl) rfl ?_
  refine SPL_nil ?_
  refine thenP_n ?_
  refine SP_seq ?_
  refine SP_seq ?_
  refine SP_region ?_
  refine SPL_y (y_fa fld_110_0 rfl) rfl ?_
  refine SPL_y (y_load Tryz.isAgg5 rfl (by repeat (first | exact Cell.head rfl | apply Cell.tail))) rfl ?_
  refine SPL_y (y_move rfl) rfl ?_
  refine SPL_if (y_neq rfl rfl) rfl ?_ ?_
  · intro h1_3
    refine SPL_nil ?_
    refine thenP_n ?_
    refine SP_cond_t rfl ?_
    refine SP_seq ?_
    refine SP_region ?_
    refine SPL_y (y_assign rfl) rfl ?_
    refine SPL_nil ?_
    refine thenP_n ?_
    refine SP_ret ?_
    refine thenP_ret (bodyP_ret (H' := []) (Res1 rfl rfl) (by repeat (first | exact Part.nil _ | (apply Part.cons; (first | exact P0 | exact P1 | exact P2 | exact P3 | exact P4 | exact P5 | exact P6 | exact P7 | exact P8 | exact P9 | exact P10 | exact P11 | exact P12 | exact P13 | exact P14 | exact P15 | exact P16 | exact P17 | exact P18 | exact P19 | exact P20 | exact P21 | exact P22 | exact P23)) | (apply Part.flat; simp only [List.cons_append, List.nil_append]) | (apply Part.nilc))) ?_)
    refine ⟨?_, rfl⟩
    unfold fits
    refine congrArg Value.bool ?_
    rw [decide_eq_false (fun h => h1_3 h.1)]
  intro h1_3
  refine SPL_nil ?_
  refine thenP_n ?_
  refine SP_cond_f rfl ?_
  refine SP_skip ?_
  refine thenP_n ?_
  refine SP_seq ?_
  refine SP_region ?_
  refine SPL_y (y_move rfl) rfl ?_
  refine SPL_if (y_eql rfl rfl) rfl ?_ ?_
  · intro h3_1
    refine SPL_y (y_move rfl) rfl ?_
    refine SPL_gn rfl rfl rfl rfl ?_
    refine SPL_gn rfl rfl rfl rfl ?_
    refine SPL_gn rfl rfl rfl rfl ?_
    refine SPL_gn rfl rfl rfl rfl ?_
    refine SPL_gu rfl rfl rfl ?_
    refine SPL_gu rfl rfl rfl ?_
    refine SPL_gu rfl rfl rfl ?_
    refine SPL_gn rfl rfl rfl rfl ?_
    refine SPL_y (y_pick_t rfl rfl) rfl ?_
    refine SPL_y (y_assign rfl) rfl ?_
    refine SPL_nil ?_
    refine thenP_n ?_
    refine SP_ret ?_
    refine bodyP_ret (H' := []) (Res1 rfl rfl) (by repeat (first | exact Part.nil _ | (apply Part.cons; (first | exact P0 | exact P1 | exact P2 | exact P3 | exact P4 | exact P5 | exact P6 | exact P7 | exact P8 | exact P9 | exact P10 | exact P11 | exact P12 | exact P13 | exact P14 | exact P15 | exact P16 | exact P17 | exact P18 | exact P19 | exact P20 | exact P21 | exact P22 | exact P23)) | (apply Part.flat; simp only [List.cons_append, List.nil_append]) | (apply Part.nilc))) ?_
    refine ⟨?_, rfl⟩
    unfold fits
    refine congrArg Value.bool ?_
    rw [decide_eq_true ⟨Decidable.not_not.1 h1_3, .inl h3_1⟩]
  intro h3_1
  refine SPL_y (y_move rfl) rfl ?_
  refine SPL_gy rfl rfl ?_
  refine SPL_y (y_fa fld_110_1 rfl) rfl ?_
  refine SPL_gy rfl rfl ?_
  refine SPL_y (y_load Tryz.isAgg3 rfl (by repeat (first | exact Cell.head rfl | apply Cell.tail))) rfl ?_
  refine SPL_gy rfl rfl ?_
  refine SPL_ifn (y_geq rfl rfl) rfl ?_ ?_
  · intro h3_5
    refine SPL_gy rfl rfl ?_
    refine SPL_y (y_move rfl) rfl ?_
    refine SPL_gn rfl rfl rfl rfl ?_
    refine SPL_gn rfl rfl rfl rfl ?_
    refine SPL_gn rfl rfl rfl rfl ?_
    refine SPL_gy rfl rfl ?_
    refine SPL_y (y_pick_f rfl rfl) rfl ?_
    refine SPL_y (y_pick_f rfl rfl) rfl ?_
    refine SPL_y (y_assign rfl) rfl ?_
    refine SPL_nil ?_
    refine thenP_n ?_
    refine SP_ret ?_
    refine bodyP_ret (H' := []) (Res1 rfl rfl) (by repeat (first | exact Part.nil _ | (apply Part.cons; (first | exact P0 | exact P1 | exact P2 | exact P3 | exact P4 | exact P5 | exact P6 | exact P7 | exact P8 | exact P9 | exact P10 | exact P11 | exact P12 | exact P13 | exact P14 | exact P15 | exact P16 | exact P17 | exact P18 | exact P19 | exact P20 | exact P21 | exact P22 | exact P23)) | (apply Part.flat; simp only [List.cons_append, List.nil_append]) | (apply Part.nilc))) ?_
    refine ⟨?_, rfl⟩
    unfold fits
    refine congrArg Value.bool ?_
    rw [decide_eq_false (fun h => by rw [h32] at h; omega)]
  intro h3_5
  refine SPL_gy rfl rfl ?_
  refine SPL_y (y_move rfl) rfl ?_
  refine SPL_gy rfl rfl ?_
  refine SPL_y (y_fa fld_110_1 rfl) rfl ?_
  refine SPL_gy rfl rfl ?_
  refine SPL_y (y_load Tryz.isAgg3 rfl (by repeat (first | exact Cell.head rfl | apply Cell.tail))) rfl ?_
  refine SPL_gy rfl rfl ?_
  refine SPL_y (y_lss rfl rfl) rfl ?_
  refine SPL_gy rfl rfl ?_
  refine SPL_y (y_pick_t rfl rfl) rfl ?_
  refine SPL_y (y_pick_f rfl rfl) rfl ?_
  refine SPL_y (y_assign rfl) rfl ?_
  refine SPL_nil ?_
  refine thenP_n ?_
  refine SP_ret ?_
  refine bodyP_ret (H' := []) (Res1 rfl rfl) (by repeat (first | exact Part.nil _ | (apply Part.cons; (first | exact P0 | exact P1 | exact P2 | exact P3 | exact P4 | exact P5 | exact P6 | exact P7 | exact P8 | exact P9 | exact P10 | exact P11 | exact P12 | exact P13 | exact P14 | exact P15 | exact P16 | exact P17 | exact P18 | exact P19 | exact P20 | exact P21 | exact P22 | exact P23)) | (apply Part.flat; simp only [List.cons_append, List.nil_append]) | (apply Part.nilc))) ?_
  refine ⟨?_, rfl⟩
  unfold fits
  refine congrArg Value.bool ?_
  apply decide_eq_decide.2
  rw [h32]
  omega

theorem wv_val (l : List W) : (l.map W.val).flatMap valV = l.flatMap wv := by rw [List.flatMap_map]; rfl
theorem cut_top (st : List W) (k : Nat) : st = cutW st k ++ topW st k := (List.take_append_drop _ _).symm
theorem topW_len {st : List W} {k : Nat} (h : k ≤ st.length) : (topW st k).length = k := by unfold topW; rw [List.length_drop]; omega
theorem cutW_len (st : List W) (k : Nat) : (cutW st k).length = st.length - k := by unfold cutW; rw [List.length_take]; omega
theorem answer_rng (s : List UInt8) (k : Nat) : ∀ v, v ∈ (answer s k).1 → -9223372036854775808 ≤ v.v ∧ v.v ≤ 9223372036854775807 := by
  have hs := sgn_rng (s.getD (2 * k + 1) 0)
  intro v hv
  unfold answer at hv
  generalize sgn (s.getD (2 * k + 1) 0) = z at hs hv
  repeat' split at hv
  all_goals simp at hv
  all_goals (first | (subst hv; dsimp only; omega) | (rcases hv with rfl | rfl <;> dsimp only <;> omega))
theorem answer_le (s : List UInt8) (k : Nat) : (answer s k).1.length ≤ 2 := by
  unfold answer
  repeat' split
  all_goals simp

theorem Cell.eq {H : Hp} {b o : Nat} {v w : Value} (e : v = w) (h : Cell H b o v) : Cell H b o w := e ▸ h
theorem fits_ty {v : Val} {t : UInt8} (h : fits v t = true) (ht : t = 105 ∨ t = 108) : v.t = 105 ∨ v.t = 108 := by rw [fits_t h]; exact ht

theorem rm_ask0 (x pb : Nat) (rv kv : Value) (E : RE) (R : RS) (s : Seg) (hm : isR x (.pointer (some ⟨pb, 0, none⟩)) rv kv E R s) (fa : Option Addr) (Pn : Pm) (steps : Int) (sp : Seg) (hp : isPm pb fa Pn steps sp) (hPE : E.P = Pn.flat) (hfl : Pn.funs.length ≤ 1000) (g : Int) (hg : i64ok g) (e : Int) (Rp : RS) (hask : askP E R g = some (e, Rp)) (hS : Small R) (hlen : (E.P.sig g).1.length ≤ 100) (hrs : ∀ t, t ∈ (E.P.sig g).2.1 → t = 105 ∨ t = 108) (htape : E.tape.length ≤ 140737488351232) (hh : E.host = false) : Spec Tryz.prog 157 [.pointer (some ⟨x, 0, none⟩), I g] [s, sp] (Ret fun v H => ∃ s' st', v = I e ∧ H = [s', sp] ∧ isR x (.pointer (some ⟨pb, 0, none⟩)) rv kv E { Rp with st := st' } s' ∧ (e = 0 → st' = Rp.st)) := by
  unfold askP at hask
  split at hask
  case isFalse h => cases hask
  rename_i hcond
  obtain ⟨hlt, htys⟩ := hcond
  have hal := topW_len hlt
  have hcl := cutW_len R.st (E.P.sig g).1.length
  have hsz := hS.st
  dsimp only at hask
  have hm0 := hm
  obtain ⟨sa, sc, ss, rfl, hst⟩ := hm
  refine Spec_flat ?_
  simp only [List.cons_append, List.nil_append, instR]
  try rw [if_pos hh] at hask
  simp only [Option.some.injEq, Prod.mk.injEq] at hask
  obtain ⟨rfl, rfl⟩ := hask
  refine Spec_enter Tryz.func157 rfl Tryz.ntmps157 rfl ?_
  show SP _ _ _ _ _ [(0, _), (1, _)] _
  refine SP_seq ?_
  refine SP_region ?_
  refine SPL_y (y_assign rfl) rfl ?_
  refine SPL_nil ?_
  refine thenP_n ?_
  refine SP_seq ?_
  refine SP_region ?_
  refine SPL_y (y_move rfl) rfl ?_
  refine SPL_y (y_nil rfl) rfl ?_
  refine SPL_y (y_fa fld_119_0 rfl) rfl ?_
  refine SPL_y (y_load Tryz.isAgg62 rfl (by repeat (first | exact Cell.head rfl | apply Cell.tail))) rfl ?_
  refine SPL_y (y_move rfl) rfl ?_
  refine SPL_one rfl (SP1_call (pm_SigP pb fa Pn steps sp hp g hfl) Tryz.call104 rfl rfl (by repeat (first | exact Part.nil _ | (apply Part.cons; (first | exact P0 | exact P1 | exact P2 | exact P3 | exact P4 | exact P5 | exact P6 | exact P7 | exact P8 | exact P9 | exact P10 | exact P11 | exact P12 | exact P13 | exact P14 | exact P15 | exact P16 | exact P17 | exact P18 | exact P19 | exact P20 | exact P21 | exact P22 | exact P23)) | (apply Part.flat; simp only [List.cons_append, List.nil_append]) | (apply Part.nilc))) ?_)
  rintro v post H' ⟨rfl, rfl⟩ hH
  try simp only [List.cons_append, List.nil_append] at hH
  subst hH
  rw [Pm.sig_flat, ← hPE]
  refine SPL_y (y_move rfl) rfl ?_
  refine SPL_y (y_ext rfl rfl) rfl ?_
  refine SPL_y (y_ext rfl rfl) rfl ?_
  refine SPL_y (y_ext rfl rfl) rfl ?_
  refine SPL_y (y_ext rfl rfl) rfl ?_
  refine SPL_y (y_assign rfl) rfl ?_
  refine SPL_y (y_assign rfl) rfl ?_
  refine SPL_y (y_assign rfl) rfl ?_
  refine SPL_y (y_assign rfl) rfl ?_
  refine SPL_nil ?_
  refine thenP_n ?_
  refine SP_seq ?_
  refine SP_region ?_
  refine SPL_y (y_move rfl) rfl ?_
  refine SPL_y (y_move rfl) rfl ?_
  refine SPL_one rfl (SP1_call (rm_take x _ rv kv E R _ hm0 (cutW R.st (E.P.sig g).1.length) (topW R.st (E.P.sig g).1.length) (cut_top _ _) _ htys (by omega)) Tryz.call139 rfl rfl (by repeat (first | exact Part.nil _ | (apply Part.cons; (first | exact P0 | exact P1 | exact P2 | exact P3 | exact P4 | exact P5 | exact P6 | exact P7 | exact P8 | exact P9 | exact P10 | exact P11 | exact P12 | exact P13 | exact P14 | exact P15 | exact P16 | exact P17 | exact P18 | exact P19 | exact P20 | exact P21 | exact P22 | exact P23)) | (apply Part.flat; simp only [List.cons_append, List.nil_append]) | (apply Part.nilc))) ?_)
  rintro v post H' ⟨s1, ga, gc, sg, rfl, rfl, hm1, hga⟩ hH
  try simp only [List.cons_append, List.nil_append] at hH
  subst hH
  refine SPL_y (y_move rfl) rfl ?_
  refine SPL_y (y_ext rfl rfl) rfl ?_
  refine SPL_y (y_ext rfl rfl) rfl ?_
  refine SPL_y (y_assign rfl) rfl ?_
  refine SPL_y (y_assign rfl) rfl ?_
  refine SPL_nil ?_
  refine thenP_n ?_
  refine SP_seq ?_
  refine SP_seq ?_
  refine SP_region ?_
  refine SPL_y (y_move rfl) rfl ?_
  refine SPL_y (y_not_t rfl) rfl ?_
  refine SPL_nil ?_
  refine thenP_n ?_
  refine SP_cond_f rfl ?_
  refine SP_skip ?_
  refine thenP_n ?_
  refine SP_seq ?_
  refine SP_seq ?_
  obtain ⟨sa1, sc1, ss1, rfl, hst1⟩ := hm1
  refine SP_openAt [blk x 119 (instR (.pointer (some ⟨pb, 0, none⟩)) rv kv (.slice sa1 { R with st := cutW R.st (E.P.sig g).1.length }.st.length sc1) E { R with st := cutW R.st (E.P.sig g).1.length }), ss1] (by first | exact P0 | exact P1 | exact P2 | exact P3 | exact P4 | exact P5 | exact P6 | exact P7 | exact P8 | exact P9 | exact P10 | exact P11 | exact P12 | exact P13 | exact P14 | exact P15 | exact P16 | exact P17 | exact P18 | exact P19 | exact P20 | exact P21 | exact P22 | exact P23) ?_
  simp only [List.cons_append, List.nil_append, instR]
  refine SP_region ?_
  refine SPL_y (y_move rfl) rfl ?_
  refine SPL_y (y_nil rfl) rfl ?_
  refine SPL_y (y_fa fld_119_8 rfl) rfl ?_
  refine SPL_y (y_load Tryz.isAgg4 rfl (Cell.eq (congrArg Value.bool hh) (by repeat (first | exact Cell.head rfl | apply Cell.tail)))) rfl ?_
  refine SPL_y (y_not_f rfl) rfl ?_
  refine SPL_nil ?_
  refine thenP_n ?_
  refine SP_cond_t rfl ?_
  refine SP_seq ?_
  refine SP_region ?_
  refine SPL_y (y_assign rfl) rfl ?_
  refine SPL_nil ?_
  refine thenP_n ?_
  refine SP_ret ?_
  refine thenP_ret (bodyP_ret (H' := [List.flatten [blk x 119 (instR (.pointer (some ⟨pb, 0, none⟩)) rv kv (.slice sa1 { R with st := cutW R.st (E.P.sig g).1.length }.st.length sc1) E { R with st := cutW R.st (E.P.sig g).1.length }), ss1], sp]) (Res1 rfl rfl) (by repeat (first | exact Part.nil _ | (apply Part.cons; (first | exact P0 | exact P1 | exact P2 | exact P3 | exact P4 | exact P5 | exact P6 | exact P7 | exact P8 | exact P9 | exact P10 | exact P11 | exact P12 | exact P13 | exact P14 | exact P15 | exact P16 | exact P17 | exact P18 | exact P19 | exact P20 | exact P21 | exact P22 | exact P23)) | (apply Part.flat; simp only [List.cons_append, List.nil_append]) | (apply Part.nilc))) ?_)
  exact ⟨_, _, rfl, rfl, ⟨sa1, sc1, ss1, rfl, hst1⟩, fun h => by cases h⟩

theorem valsW (t : List UInt8) (va : Option Addr) (vc : Nat) (l : List W) (sv : Seg) (ha : Arr 110 2 va l.length vc (l.flatMap wv) sv) (hs : t.length ≤ 1000000) (hll : l.length ≤ 1000000) (hr : ∀ y, y ∈ l → -9223372036854775808 ≤ y.n ∧ y.n ≤ 9223372036854775807) : Spec Tryz.prog 60 [S t, .slice va l.length vc] [sv] (Ret fun v H => v = S (t ++ valsS (l.map W.val)) ∧ H = [sv]) := by
  have h := api_Vals t va vc (l.map W.val) sv (by rw [wv_val, List.length_map]; exact ha) hs (by rw [List.length_map]; exact hll) (fun x hx => by obtain ⟨z, hz, rfl⟩ := List.mem_map.1 hx; exact hr z hz)
  rw [List.length_map] at h
  exact h

set_option maxHeartbeats 4000000 in
theorem rm_ask1 (x pb : Nat) (rv kv : Value) (E : RE) (R : RS) (s : Seg) (hm : isR x (.pointer (some ⟨pb, 0, none⟩)) rv kv E R s) (fa : Option Addr) (Pn : Pm) (steps : Int) (sp : Seg) (hp : isPm pb fa Pn steps sp) (hPE : E.P = Pn.flat) (hfl : Pn.funs.length ≤ 1000) (g : Int) (hg : i64ok g) (e : Int) (Rp : RS) (hask : askP E R g = some (e, Rp)) (hS : Small R) (hlen : (E.P.sig g).1.length ≤ 100) (hrs : ∀ t, t ∈ (E.P.sig g).2.1 → t = 105 ∨ t = 108) (htape : E.tape.length ≤ 140737488351232) (hh : E.host = true) : Spec Tryz.prog 157 [.pointer (some ⟨x, 0, none⟩), I g] [s, sp] (Ret fun v H => ∃ s' st', v = I e ∧ H = [s', sp] ∧ isR x (.pointer (some ⟨pb, 0, none⟩)) rv kv E { Rp with st := st' } s' ∧ (e = 0 → st' = Rp.st)) := by
  unfold askP at hask
  split at hask
  case isFalse h => cases hask
  rename_i hcond
  obtain ⟨hlt, htys⟩ := hcond
  have hal := topW_len hlt
  have hcl := cutW_len R.st (E.P.sig g).1.length
  have hsz := hS.st
  dsimp only at hask
  have hm0 := hm
  obtain ⟨sa, sc, ss, rfl, hst⟩ := hm
  refine Spec_flat ?_
  simp only [List.cons_append, List.nil_append, instR]
  rw [if_neg (by rw [hh]; simp)] at hask
  have han := answer_le E.tape R.asked
  refine Spec_enter Tryz.func157 rfl Tryz.ntmps157 rfl ?_
  show SP _ _ _ _ _ [(0, _), (1, _)] _
  refine SP_seq ?_
  refine SP_region ?_
  refine SPL_y (y_assign rfl) rfl ?_
  refine SPL_nil ?_
  refine thenP_n ?_
  refine SP_seq ?_
  refine SP_region ?_
  refine SPL_y (y_move rfl) rfl ?_
  refine SPL_y (y_nil rfl) rfl ?_
  refine SPL_y (y_fa fld_119_0 rfl) rfl ?_
  refine SPL_y (y_load Tryz.isAgg62 rfl (by repeat (first | exact Cell.head rfl | apply Cell.tail))) rfl ?_
  refine SPL_y (y_move rfl) rfl ?_
  refine SPL_one rfl (SP1_call (pm_SigP pb fa Pn steps sp hp g hfl) Tryz.call104 rfl rfl (by repeat (first | exact Part.nil _ | (apply Part.cons; (first | exact P0 | exact P1 | exact P2 | exact P3 | exact P4 | exact P5 | exact P6 | exact P7 | exact P8 | exact P9 | exact P10 | exact P11 | exact P12 | exact P13 | exact P14 | exact P15 | exact P16 | exact P17 | exact P18 | exact P19 | exact P20 | exact P21 | exact P22 | exact P23)) | (apply Part.flat; simp only [List.cons_append, List.nil_append]) | (apply Part.nilc))) ?_)
  rintro v post H' ⟨rfl, rfl⟩ hH
  try simp only [List.cons_append, List.nil_append] at hH
  subst hH
  rw [Pm.sig_flat, ← hPE]
  refine SPL_y (y_move rfl) rfl ?_
  refine SPL_y (y_ext rfl rfl) rfl ?_
  refine SPL_y (y_ext rfl rfl) rfl ?_
  refine SPL_y (y_ext rfl rfl) rfl ?_
  refine SPL_y (y_ext rfl rfl) rfl ?_
  refine SPL_y (y_assign rfl) rfl ?_
  refine SPL_y (y_assign rfl) rfl ?_
  refine SPL_y (y_assign rfl) rfl ?_
  refine SPL_y (y_assign rfl) rfl ?_
  refine SPL_nil ?_
  refine thenP_n ?_
  refine SP_seq ?_
  refine SP_region ?_
  refine SPL_y (y_move rfl) rfl ?_
  refine SPL_y (y_move rfl) rfl ?_
  refine SPL_one rfl (SP1_call (rm_take x _ rv kv E R _ hm0 (cutW R.st (E.P.sig g).1.length) (topW R.st (E.P.sig g).1.length) (cut_top _ _) _ htys (by omega)) Tryz.call139 rfl rfl (by repeat (first | exact Part.nil _ | (apply Part.cons; (first | exact P0 | exact P1 | exact P2 | exact P3 | exact P4 | exact P5 | exact P6 | exact P7 | exact P8 | exact P9 | exact P10 | exact P11 | exact P12 | exact P13 | exact P14 | exact P15 | exact P16 | exact P17 | exact P18 | exact P19 | exact P20 | exact P21 | exact P22 | exact P23)) | (apply Part.flat; simp only [List.cons_append, List.nil_append]) | (apply Part.nilc))) ?_)
  rintro v post H' ⟨s1, ga, gc, sg, rfl, rfl, hm1, hga⟩ hH
  try simp only [List.cons_append, List.nil_append] at hH
  subst hH
  refine SPL_y (y_move rfl) rfl ?_
  refine SPL_y (y_ext rfl rfl) rfl ?_
  refine SPL_y (y_ext rfl rfl) rfl ?_
  refine SPL_y (y_assign rfl) rfl ?_
  refine SPL_y (y_assign rfl) rfl ?_
  refine SPL_nil ?_
  refine thenP_n ?_
  refine SP_seq ?_
  refine SP_seq ?_
  refine SP_region ?_
  refine SPL_y (y_move rfl) rfl ?_
  refine SPL_y (y_not_t rfl) rfl ?_
  refine SPL_nil ?_
  refine thenP_n ?_
  refine SP_cond_f rfl ?_
  refine SP_skip ?_
  refine thenP_n ?_
  refine SP_seq ?_
  refine SP_seq ?_
  obtain ⟨sa1, sc1, ss1, rfl, hst1⟩ := hm1
  refine SP_openAt [blk x 119 (instR (.pointer (some ⟨pb, 0, none⟩)) rv kv (.slice sa1 { R with st := cutW R.st (E.P.sig g).1.length }.st.length sc1) E { R with st := cutW R.st (E.P.sig g).1.length }), ss1] (by first | exact P0 | exact P1 | exact P2 | exact P3 | exact P4 | exact P5 | exact P6 | exact P7 | exact P8 | exact P9 | exact P10 | exact P11 | exact P12 | exact P13 | exact P14 | exact P15 | exact P16 | exact P17 | exact P18 | exact P19 | exact P20 | exact P21 | exact P22 | exact P23) ?_
  simp only [List.cons_append, List.nil_append, instR]
  refine SP_region ?_
  refine SPL_y (y_move rfl) rfl ?_
  refine SPL_y (y_nil rfl) rfl ?_
  refine SPL_y (y_fa fld_119_8 rfl) rfl ?_
  refine SPL_y (y_load Tryz.isAgg4 rfl (Cell.eq (congrArg Value.bool hh) (by repeat (first | exact Cell.head rfl | apply Cell.tail)))) rfl ?_
  refine SPL_y (y_not_t rfl) rfl ?_
  refine SPL_nil ?_
  refine thenP_n ?_
  refine SP_cond_f rfl ?_
  refine SP_skip ?_
  refine thenP_n ?_
  refine SP_seq ?_
  refine SP_region ?_
  refine SPL_y (y_move rfl) rfl ?_
  refine SPL_y (y_move rfl) rfl ?_
  refine SPL_y (y_nil rfl) rfl ?_
  refine SPL_y (y_fa fld_119_10 rfl) rfl ?_
  refine SPL_y (y_load Tryz.isAgg9 rfl (by repeat (first | exact Cell.head rfl | apply Cell.tail))) rfl ?_
  refine SPL_y (y_cat rfl rfl (by have := hS.tr; simp; omega)) rfl ?_
  refine SPL_y (y_move rfl) rfl ?_
  refine SPL_one rfl (SP1_call (api_Num (R.trace ++ [104]) g (by have := hS.tr; simp; omega) hg.1 hg.2) Tryz.call41 rfl rfl (by repeat (first | exact Part.nil _ | (apply Part.cons; (first | exact P0 | exact P1 | exact P2 | exact P3 | exact P4 | exact P5 | exact P6 | exact P7 | exact P8 | exact P9 | exact P10 | exact P11 | exact P12 | exact P13 | exact P14 | exact P15 | exact P16 | exact P17 | exact P18 | exact P19 | exact P20 | exact P21 | exact P22 | exact P23)) | (apply Part.flat; simp only [List.cons_append, List.nil_append]) | (apply Part.nilc))) ?_)
  rintro v post H' ⟨rfl, rfl⟩ hH
  try simp only [List.cons_append, List.nil_append] at hH
  subst hH
  refine SPL_y (y_nil rfl) rfl ?_
  refine SPL_y (y_fa fld_119_10 rfl) rfl ?_
  refine SPL_one rfl (SP1_store Tryz.sizeOf9 rfl rfl rfl (by first | exact U0 | exact U1 | exact U2 | exact U3 | exact U4 | exact U5 | exact U6 | exact U7 | exact U8 | exact U9 | exact U10 | exact U11 | exact U12 | exact U13 | exact U14 | exact U15 | exact U16 | exact U17 | exact U18 | exact U19 | exact U20 | exact U21 | exact U22 | exact U23) (by rfl) ?_)
  refine SPL_nil ?_
  refine thenP_n ?_
  refine SP_seq ?_
  refine SP_region ?_
  refine SPL_y (y_move rfl) rfl ?_
  refine SPL_y (y_move rfl) rfl ?_
  refine SPL_y (y_nil rfl) rfl ?_
  refine SPL_y (y_fa fld_119_10 rfl) rfl ?_
  refine SPL_y (y_load Tryz.isAgg9 rfl (by repeat (first | exact Cell.head rfl | apply Cell.tail))) rfl ?_
  refine SPL_y (y_move rfl) rfl ?_
  refine SPL_one rfl (SP1_call (valsW (num (R.trace ++ [104]) g) ga gc (topW R.st (E.P.sig g).1.length) sg hga (by have h1 := num_len (R.trace ++ [104]) g; have h2 := hS.tr; rw [List.length_append, List.length_singleton] at h1; omega) (by omega) (fun z hz => hS.ok z (List.mem_of_mem_drop hz))) Tryz.call60 rfl rfl (by repeat (first | exact Part.nil _ | (apply Part.cons; (first | exact P0 | exact P1 | exact P2 | exact P3 | exact P4 | exact P5 | exact P6 | exact P7 | exact P8 | exact P9 | exact P10 | exact P11 | exact P12 | exact P13 | exact P14 | exact P15 | exact P16 | exact P17 | exact P18 | exact P19 | exact P20 | exact P21 | exact P22 | exact P23)) | (apply Part.flat; simp only [List.cons_append, List.nil_append]) | (apply Part.nilc))) ?_)
  rintro v post H' ⟨rfl, rfl⟩ hH
  try simp only [List.cons_append, List.nil_append] at hH
  subst hH
  refine SPL_y (y_nil rfl) rfl ?_
  refine SPL_y (y_fa fld_119_10 rfl) rfl ?_
  refine SPL_one rfl (SP1_store Tryz.sizeOf9 rfl rfl rfl (by first | exact U0 | exact U1 | exact U2 | exact U3 | exact U4 | exact U5 | exact U6 | exact U7 | exact U8 | exact U9 | exact U10 | exact U11 | exact U12 | exact U13 | exact U14 | exact U15 | exact U16 | exact U17 | exact U18 | exact U19 | exact U20 | exact U21 | exact U22 | exact U23) (by rfl) ?_)
  refine SPL_nil ?_
  refine thenP_n ?_
  refine SP_seq ?_
  refine SP_draw 8 [(0, 0), (1, 0), (2, 0), (4, 0), (5, 0), (6, 0), (3, 1), (7, 1), (8, 3), (9, 0), (10, 0), (11, 0), (12, 0), (13, 0)] mixed (by kernel_rfl) (fun _ _ _ _ _ h => h) (Part.refl _) ?_
  refine SPO_p rfl (y_move rfl) rfl ?_
  refine SPO_p rfl (y_nil rfl) rfl ?_
  refine SPO_p rfl (y_fa fld_119_9 rfl) rfl ?_
  refine SPO_p rfl (y_move rfl) rfl ?_
  refine SPO_p rfl (y_nil rfl) rfl ?_
  refine SPO_p rfl (y_fa fld_119_7 rfl) rfl ?_
  refine SPO_h rfl (y_load Tryz.isAgg9 rfl (by repeat (first | exact Cell.head rfl | apply Cell.tail))) rfl ?_
  refine SPO_h rfl (y_load Tryz.isAgg3 rfl (by repeat (first | exact Cell.head rfl | apply Cell.tail))) rfl ?_
  refine SPO_z (k := 0) rfl rfl (SP1_call (runm_Answer E.tape R.asked htape hS.ak) Tryz.call164 rfl rfl (by repeat (first | exact Part.nil _ | (apply Part.cons; (first | exact P0 | exact P1 | exact P2 | exact P3 | exact P4 | exact P5 | exact P6 | exact P7 | exact P8 | exact P9 | exact P10 | exact P11 | exact P12 | exact P13 | exact P14 | exact P15 | exact P16 | exact P17 | exact P18 | exact P19 | exact P20 | exact P21 | exact P22 | exact P23)) | (apply Part.flat; simp only [List.cons_append, List.nil_append]) | (apply Part.nilc))) ?_)
  rintro v post H' ⟨aa, ac, sv, rfl, rfl, haa⟩ hH
  try simp only [List.cons_append, List.nil_append] at hH
  subst hH
  refine SPO_p rfl (y_move rfl) rfl ?_
  refine SPO_p rfl (y_ext rfl rfl) rfl ?_
  refine SPO_p rfl (y_ext rfl rfl) rfl ?_
  refine SPO_p rfl (y_assign rfl) rfl ?_
  refine SPO_p rfl (y_assign rfl) rfl ?_
  refine SPO_nil ?_
  refine thenP_n ?_
  refine SP_seq ?_
  refine SP_region ?_
  refine SPL_y (y_move rfl) rfl ?_
  refine SPL_y (y_nil rfl) rfl ?_
  refine SPL_y (y_fa fld_119_7 rfl) rfl ?_
  refine SPL_y (y_load Tryz.isAgg3 rfl (by repeat (first | exact Cell.head rfl | apply Cell.tail))) rfl ?_
  refine SPL_y (y_add rfl rfl (by have := hS.ak; omega)) rfl ?_
  refine SPL_y (y_nil rfl) rfl ?_
  refine SPL_y (y_fa fld_119_7 rfl) rfl ?_
  refine SPL_one rfl (SP1_store Tryz.sizeOf3 rfl rfl rfl (by first | exact U0 | exact U1 | exact U2 | exact U3 | exact U4 | exact U5 | exact U6 | exact U7 | exact U8 | exact U9 | exact U10 | exact U11 | exact U12 | exact U13 | exact U14 | exact U15 | exact U16 | exact U17 | exact U18 | exact U19 | exact U20 | exact U21 | exact U22 | exact U23) (by rfl) ?_)
  refine SPL_nil ?_
  refine thenP_n ?_
  refine SP_seq ?_
  refine SP_seq ?_
  rw [show num (R.trace ++ [104]) g ++ valsS ((topW R.st (E.P.sig g).1.length).map W.val) = R.trace ++ [104] ++ numS g ++ valsS ((topW R.st (E.P.sig g).1.length).map W.val) from rfl]
  refine SP_region ?_
  refine SPL_y (y_move rfl) rfl ?_
  refine SPL_if (y_neq rfl rfl) rfl ?_ ?_
  · intro h11_1
    refine SPL_nil ?_
    refine thenP_n ?_
    refine SP_cond_t rfl ?_
    refine SP_seq ?_
    refine SP_region ?_
    refine SPL_y (y_move rfl) rfl ?_
    refine SPL_y (y_assign rfl) rfl ?_
    refine SPL_nil ?_
    refine thenP_n ?_
    refine SP_ret ?_
    refine thenP_ret (bodyP_ret (H' := [List.flatten [blk x 119 (instR (.pointer (some ⟨pb, 0, none⟩)) rv kv (.slice sa1 (cutW R.st (E.P.sig g).1.length).length sc1) E { R with st := cutW R.st (E.P.sig g).1.length, trace := R.trace ++ [104] ++ numS g ++ valsS ((topW R.st (E.P.sig g).1.length).map W.val), asked := R.asked + 1 }), ss1], sp]) (Res1 rfl rfl) (by repeat (first | exact Part.nil _ | (apply Part.cons; (first | exact P0 | exact P1 | exact P2 | exact P3 | exact P4 | exact P5 | exact P6 | exact P7 | exact P8 | exact P9 | exact P10 | exact P11 | exact P12 | exact P13 | exact P14 | exact P15 | exact P16 | exact P17 | exact P18 | exact P19 | exact P20 | exact P21 | exact P22 | exact P23)) | (apply Part.flat; simp only [List.cons_append, List.nil_append]) | (apply Part.nilc))) ?_)
    rw [if_pos h11_1] at hask
    simp only [Option.some.injEq, Prod.mk.injEq] at hask
    obtain ⟨rfl, rfl⟩ := hask
    exact ⟨_, _, rfl, rfl, ⟨sa1, sc1, ss1, rfl, hst1⟩, fun h => rfl⟩
  intro h11_1
  refine SPL_nil ?_
  refine thenP_n ?_
  refine SP_cond_f rfl ?_
  refine SP_skip ?_
  refine thenP_n ?_
  refine SP_seq ?_
  refine SP_seq ?_
  refine SP_region ?_
  refine SPL_y (y_move rfl) rfl ?_
  refine SPL_y (y_len_l Tryz.underlying35 rfl) rfl ?_
  refine SPL_y (y_move rfl) rfl ?_
  refine SPL_y (y_len_s Tryz.underlying9 rfl) rfl ?_
  refine SPL_if (y_neq rfl rfl) rfl ?_ ?_
  · intro h13_4
    refine SPL_nil ?_
    refine thenP_n ?_
    refine SP_cond_t rfl ?_
    refine SP_seq ?_
    refine SP_region ?_
    refine SPL_y (y_assign rfl) rfl ?_
    refine SPL_nil ?_
    refine thenP_n ?_
    refine SP_ret ?_
    refine thenP_ret (bodyP_ret (H' := [List.flatten [blk x 119 (instR (.pointer (some ⟨pb, 0, none⟩)) rv kv (.slice sa1 (cutW R.st (E.P.sig g).1.length).length sc1) E { R with st := cutW R.st (E.P.sig g).1.length, trace := R.trace ++ [104] ++ numS g ++ valsS ((topW R.st (E.P.sig g).1.length).map W.val), asked := R.asked + 1 }), ss1], sp]) (Res1 rfl rfl) (by repeat (first | exact Part.nil _ | (apply Part.cons; (first | exact P0 | exact P1 | exact P2 | exact P3 | exact P4 | exact P5 | exact P6 | exact P7 | exact P8 | exact P9 | exact P10 | exact P11 | exact P12 | exact P13 | exact P14 | exact P15 | exact P16 | exact P17 | exact P18 | exact P19 | exact P20 | exact P21 | exact P22 | exact P23)) | (apply Part.flat; simp only [List.cons_append, List.nil_append]) | (apply Part.nilc))) ?_)
    rw [if_neg h11_1, if_pos (by cases hf : fitsAll (answer E.tape R.asked).1 (E.P.sig g).2.1 with | false => rfl | true => exact absurd (by rw [fitsAll_len hf]) h13_4)] at hask
    simp only [Option.some.injEq, Prod.mk.injEq] at hask
    obtain ⟨rfl, rfl⟩ := hask
    exact ⟨_, _, rfl, rfl, ⟨sa1, sc1, ss1, rfl, hst1⟩, fun h => rfl⟩
  intro h13_4
  refine SPL_nil ?_
  refine thenP_n ?_
  refine SP_cond_f rfl ?_
  refine SP_skip ?_
  refine thenP_n ?_
  refine SP_seq ?_
  refine SP_seq ?_
  refine SP_region ?_
  refine SPL_y (y_assign rfl) rfl ?_
  refine SPL_nil ?_
  refine thenP_n ?_
  refine SP_block ?_
  refine SP_loop (G := Nat × Option Addr × Nat × Seg) (fun q => (answer E.tape R.asked).1.length - q.1) (fun q => [(0, .pointer (some ⟨x, 0, none⟩)), (6, S (E.P.sig g).2.1), (11, .slice aa (answer E.tape R.asked).1.length ac), (13, I q.1)]) (fun q => [blk x 119 (instR (.pointer (some ⟨pb, 0, none⟩)) rv kv (.slice q.2.1 ((cutW R.st (E.P.sig g).1.length).length + q.1) q.2.2.1) E { R with st := cutW R.st (E.P.sig g).1.length, trace := R.trace ++ [104] ++ numS g ++ valsS ((topW R.st (E.P.sig g).1.length).map W.val), asked := R.asked + 1 }), q.2.2.2, sv, sp]) (fun q => q.1 ≤ (answer E.tape R.asked).1.length ∧ (∀ (k : Nat) (h1 : k < (answer E.tape R.asked).1.length) (h2 : k < (E.P.sig g).2.1.length), k < q.1 → fits (answer E.tape R.asked).1[k] (E.P.sig g).2.1[k] = true) ∧ Arr 110 2 q.2.1 ((cutW R.st (E.P.sig g).1.length).length + q.1) q.2.2.1 (((cutW R.st (E.P.sig g).1.length) ++ ((answer E.tape R.asked).1.take q.1).map toW).flatMap wv) q.2.2.2) ((0, sa1, sc1, ss1)) (⟨Nat.zero_le _, fun k _ _ h => absurd h (by simp), by simpa using hst1⟩) (by repeat (first | exact Sub.nil _ | refine Sub.cons rfl ?_)) (by repeat (first | exact Part.nil _ | (apply Part.cons; (first | exact P0 | exact P1 | exact P2 | exact P3 | exact P4 | exact P5 | exact P6 | exact P7 | exact P8 | exact P9 | exact P10 | exact P11 | exact P12 | exact P13 | exact P14 | exact P15 | exact P16 | exact P17 | exact P18 | exact P19 | exact P20 | exact P21 | exact P22 | exact P23)) | (apply Part.flat; simp only [List.cons_append, List.nil_append]) | (apply Part.nilc))) ?_
  rintro ⟨j, sa2, sc2, ss2⟩ ⟨hj, hfi, hst2⟩
  dsimp only at hj hfi hst2 ⊢
  refine SP_seq ?_
  refine SP_seq ?_
  refine SP_region ?_
  refine SPL_y (y_move rfl) rfl ?_
  refine SPL_y (y_move rfl) rfl ?_
  refine SPL_y (y_len_l Tryz.underlying35 rfl) rfl ?_
  refine SPL_ifn (y_lss rfl rfl) rfl ?_ ?_
  · intro h16_3
    refine SPL_nil ?_
    refine thenP_n ?_
    refine SP_cond_f rfl ?_
    refine SP_exit ?_
    refine thenP_exit ?_
    refine thenP_exit ?_
    refine inBlockP_hit ?_
    refine thenP_n ?_
    refine SP_seq ?_
    refine SP_region ?_
    refine SPL_y (y_assign rfl) rfl ?_
    refine SPL_nil ?_
    refine thenP_n ?_
    refine SP_ret ?_
    refine bodyP_ret (H' := [List.flatten [blk x 119 (instR (.pointer (some ⟨pb, 0, none⟩)) rv kv (.slice sa2 ((cutW R.st (E.P.sig g).1.length).length + j) sc2) E { R with st := (cutW R.st (E.P.sig g).1.length) ++ ((answer E.tape R.asked).1.take j).map toW, trace := R.trace ++ [104] ++ numS g ++ valsS ((topW R.st (E.P.sig g).1.length).map W.val), asked := R.asked + 1 }), ss2], sp]) (Res1 rfl rfl) (by repeat (first | exact Part.nil _ | (apply Part.cons; (first | exact P0 | exact P1 | exact P2 | exact P3 | exact P4 | exact P5 | exact P6 | exact P7 | exact P8 | exact P9 | exact P10 | exact P11 | exact P12 | exact P13 | exact P14 | exact P15 | exact P16 | exact P17 | exact P18 | exact P19 | exact P20 | exact P21 | exact P22 | exact P23)) | (apply Part.flat; simp only [List.cons_append, List.nil_append]) | (apply Part.nilc))) ?_
    obtain rfl : j = (answer E.tape R.asked).1.length := by omega
    rw [if_neg h11_1, if_neg (by rw [(fitsAll_iff (by omega)).2 (fun k h1 h2 => hfi k h1 h2 h1)]; simp)] at hask
    simp only [Option.some.injEq, Prod.mk.injEq] at hask
    obtain ⟨rfl, rfl⟩ := hask
    rw [List.take_of_length_le (Nat.le_refl _)] at hst2 ⊢
    exact ⟨_, _, rfl, rfl, isR.intro (by simp) hst2, fun h => rfl⟩
  intro h16_3
  refine SPL_nil ?_
  refine thenP_n ?_
  refine SP_cond_t rfl ?_
  refine SP_skip ?_
  refine thenP_n ?_
  refine SP_seq ?_
  refine SP_block ?_
  refine SP_seq ?_
  refine SP_seq ?_
  have hja : j < (answer E.tape R.asked).1.length := by omega
  have hjr : j < (E.P.sig g).2.1.length := by omega
  obtain ⟨ba, spa, rfl, hac, hspa, rfl⟩ := haa.row (by omega)
  refine SP_draw 7 [(0, 0), (1, 0), (2, 0), (4, 0), (5, 0), (6, 0), (3, 1), (7, 3), (8, 0)] mixed (by kernel_rfl) (fun _ _ _ _ _ h => h) (Part.refl _) ?_
  refine SPO_p rfl (y_move rfl) rfl ?_
  refine SPO_p rfl (y_move rfl) rfl ?_
  refine SPO_p rfl (y_ia Tryz.underlying35 Tryz.sizeOf110 rfl rfl (by omega)) rfl ?_
  refine SPO_p rfl (y_move rfl) rfl ?_
  refine SPO_p rfl (y_move rfl) rfl ?_
  refine SPO_p rfl (y_idx_s Tryz.underlying9 rfl rfl (by omega) (show (E.P.sig g).2.1[((j : Nat) : Int).toNat]? = some (E.P.sig g).2.1[j] by rw [Int.toNat_natCast]; exact List.getElem?_eq_getElem hjr)) rfl ?_
  refine SPO_h rfl (y_loads Tryz.isAgg110 Tryz.sizeOf110 rfl rfl (by repeat (first | exact flat_cells valV_len (i := j) rfl hja | apply Cells.tail))) rfl ?_
  refine SPO_z (k := 0) rfl rfl (SP1_call (rm_Fits (answer E.tape R.asked).1[j] (E.P.sig g).2.1[j] (answer_rng _ _ _ (List.getElem_mem _)).1 (answer_rng _ _ _ (List.getElem_mem _)).2) Tryz.call106 rfl rfl (by repeat (first | exact Part.nil _ | (apply Part.cons; (first | exact P0 | exact P1 | exact P2 | exact P3 | exact P4 | exact P5 | exact P6 | exact P7 | exact P8 | exact P9 | exact P10 | exact P11 | exact P12 | exact P13 | exact P14 | exact P15 | exact P16 | exact P17 | exact P18 | exact P19 | exact P20 | exact P21 | exact P22 | exact P23)) | (apply Part.flat; simp only [List.cons_append, List.nil_append]) | (apply Part.nilc))) ?_)
  rintro v post H' ⟨rfl, rfl⟩ hH
  try simp only [List.cons_append, List.nil_append] at hH
  subst hH
  obtain ⟨b, hb⟩ : ∃ b, fits (answer E.tape R.asked).1[j] (E.P.sig g).2.1[j] = b := ⟨_, rfl⟩
  rw [hb]
  rcases b with _ | _
  · refine SPO_p rfl (y_not_f rfl) rfl ?_
    refine SPO_nil ?_
    refine thenP_n ?_
    refine SP_cond_t rfl ?_
    refine SP_seq ?_
    refine SP_region ?_
    refine SPL_y (y_assign rfl) rfl ?_
    refine SPL_nil ?_
    refine thenP_n ?_
    refine SP_ret ?_
    refine thenP_ret (inBlockP_ret (thenP_ret (thenP_ret (inBlockP_ret (thenP_ret (bodyP_ret (H' := [List.flatten [blk x 119 (instR (.pointer (some ⟨pb, 0, none⟩)) rv kv (.slice sa2 ((cutW R.st (E.P.sig g).1.length).length + j) sc2) E { R with st := (cutW R.st (E.P.sig g).1.length) ++ ((answer E.tape R.asked).1.take j).map toW, trace := R.trace ++ [104] ++ numS g ++ valsS ((topW R.st (E.P.sig g).1.length).map W.val), asked := R.asked + 1 }), ss2], sp]) (Res1 rfl rfl) (by repeat (first | exact Part.nil _ | (apply Part.cons; (first | exact P0 | exact P1 | exact P2 | exact P3 | exact P4 | exact P5 | exact P6 | exact P7 | exact P8 | exact P9 | exact P10 | exact P11 | exact P12 | exact P13 | exact P14 | exact P15 | exact P16 | exact P17 | exact P18 | exact P19 | exact P20 | exact P21 | exact P22 | exact P23)) | (apply Part.flat; simp only [List.cons_append, List.nil_append]) | (apply Part.nilc))) ?_))))))
    rw [if_neg h11_1, if_pos (by cases hf : fitsAll (answer E.tape R.asked).1 (E.P.sig g).2.1 with | false => rfl | true => exact absurd ((fitsAll_iff (by omega)).1 hf j hja hjr) (by rw [hb]; simp))] at hask
    simp only [Option.some.injEq, Prod.mk.injEq] at hask
    obtain ⟨rfl, rfl⟩ := hask
    exact ⟨_, _, rfl, rfl, isR.intro (by simp; omega) hst2, fun h => by cases h⟩
  · refine SPO_p rfl (y_not_t rfl) rfl ?_
    refine SPO_nil ?_
    refine thenP_n ?_
    refine SP_cond_f rfl ?_
    refine SP_skip ?_
    refine thenP_n ?_
    refine SP_draw 10 [(0, 0), (1, 0), (2, 0), (3, 0), (5, 0), (6, 0), (7, 0), (4, 1), (8, 1), (9, 2), (10, 3), (11, 0), (12, 0), (13, 3)] mixed (by kernel_rfl) (fun _ _ _ _ _ h => h) (Part.refl _) ?_
    refine SPO_p rfl (y_move rfl) rfl ?_
    refine SPO_p rfl (y_move rfl) rfl ?_
    refine SPO_p rfl (y_nil rfl) rfl ?_
    refine SPO_p rfl (y_fa fld_119_3 rfl) rfl ?_
    refine SPO_p rfl (y_move rfl) rfl ?_
    refine SPO_p rfl (y_move rfl) rfl ?_
    refine SPO_p rfl (y_ia Tryz.underlying35 Tryz.sizeOf110 rfl rfl (by omega)) rfl ?_
    refine SPO_h rfl (y_load Tryz.isAgg35 rfl (by repeat (first | exact Cell.head rfl | apply Cell.tail))) rfl ?_
    refine SPO_h rfl (y_loads Tryz.isAgg110 Tryz.sizeOf110 rfl rfl (by repeat (first | exact flat_cells valV_len (i := j) rfl hja | apply Cells.tail))) rfl ?_
    refine SPO_a rfl rfl (SP1_slice1 el_35 rfl rfl rfl rfl rfl ?_)
    intro b108
    refine ⟨⟨_, (by repeat (first | exact Part.nil _ | (apply Part.cons; (first | exact P0 | exact P1 | exact P2 | exact P3 | exact P4 | exact P5 | exact P6 | exact P7 | exact P8 | exact P9 | exact P10 | exact P11 | exact P12 | exact P13 | exact P14 | exact P15 | exact P16 | exact P17 | exact P18 | exact P19 | exact P20 | exact P21 | exact P22 | exact P23)) | (apply Part.flat; simp only [List.cons_append, List.nil_append]) | (apply Part.nilc)))⟩, ?_⟩
    refine SPO_z (k := 0) rfl rfl (SP1_append el_35 (.inl Tryz.underlying35) rfl rfl hst2 (by first | exact P0 | exact P1 | exact P2 | exact P3 | exact P4 | exact P5 | exact P6 | exact P7 | exact P8 | exact P9 | exact P10 | exact P11 | exact P12 | exact P13 | exact P14 | exact P15 | exact P16 | exact P17 | exact P18 | exact P19 | exact P20 | exact P21 | exact P22 | exact P23) (Src.of (by repeat (first | exact Cells.all _ | exact Cells.head rfl | apply Cells.tail)) (by rfl)) (by rfl) (by omega) rfl ?_)
    intro sa3 sc3 ss3 hst3
    refine SPO_p rfl (y_nil rfl) rfl ?_
    refine SPO_p rfl (y_fa fld_119_3 rfl) rfl ?_
    refine SPO_z (k := 0) rfl rfl (SP1_store Tryz.sizeOf35 rfl rfl rfl (by first | exact U0 | exact U1 | exact U2 | exact U3 | exact U4 | exact U5 | exact U6 | exact U7 | exact U8 | exact U9 | exact U10 | exact U11 | exact U12 | exact U13 | exact U14 | exact U15 | exact U16 | exact U17 | exact U18 | exact U19 | exact U20 | exact U21 | exact U22 | exact U23) (by rfl) ?_)
    refine SPO_nil ?_
    refine inBlockP_n ?_
    refine thenP_n ?_
    refine SP_region ?_
    refine SPL_y (y_move rfl) rfl ?_
    refine SPL_y (y_add rfl rfl (by omega)) rfl ?_
    refine SPL_y (y_assign rfl) rfl ?_
    refine SPL_nil ?_
    refine thenP_n ?_
    exact Again.intro ((j + 1, sa3, sc3, ss3)) (⟨by dsimp only; omega, fun k h1 h2 h3 => by dsimp only at h3; by_cases e3 : k = j; (subst e3; exact hb); exact hfi k h1 h2 (by omega), by dsimp only; rw [List.take_succ_eq_append_getElem hja, List.map_append, ← List.append_assoc, List.flatMap_append]; simpa [wv_toW (fits_ty hb (hrs _ (List.getElem_mem _))), Nat.add_assoc] using hst3⟩) (by simp only []; omega) (by repeat (first | exact Sub.nil _ | refine Sub.cons rfl ?_)) (by repeat (first | exact Part.nil _ | (apply Part.cons; (first | exact P0 | exact P1 | exact P2 | exact P3 | exact P4 | exact P5 | exact P6 | exact P7 | exact P8 | exact P9 | exact P10 | exact P11 | exact P12 | exact P13 | exact P14 | exact P15 | exact P16 | exact P17 | exact P18 | exact P19 | exact P20 | exact P21 | exact P22 | exact P23)) | (apply Part.flat; simp only [List.cons_append, List.nil_append]) | (apply Part.nilc)))

theorem rm_ask (x pb : Nat) (rv kv : Value) (E : RE) (R : RS) (s : Seg) (hm : isR x (.pointer (some ⟨pb, 0, none⟩)) rv kv E R s) (fa : Option Addr) (Pn : Pm) (steps : Int) (sp : Seg) (hp : isPm pb fa Pn steps sp) (hPE : E.P = Pn.flat) (hfl : Pn.funs.length ≤ 1000) (g : Int) (hg : i64ok g) (e : Int) (Rp : RS) (hask : askP E R g = some (e, Rp)) (hS : Small R) (hlen : (E.P.sig g).1.length ≤ 100) (hrs : ∀ t, t ∈ (E.P.sig g).2.1 → t = 105 ∨ t = 108) (htape : E.tape.length ≤ 140737488351232) : Spec Tryz.prog 157 [.pointer (some ⟨x, 0, none⟩), I g] [s, sp] (Ret fun v H => ∃ s' st', v = I e ∧ H = [s', sp] ∧ isR x (.pointer (some ⟨pb, 0, none⟩)) rv kv E { Rp with st := st' } s' ∧ (e = 0 → st' = Rp.st)) := by
  cases hh : E.host with
  | false => exact rm_ask0 x pb rv kv E R s hm fa Pn steps sp hp hPE hfl g hg e Rp hask hS hlen hrs htape hh
  | true => exact rm_ask1 x pb rv kv E R s hm fa Pn steps sp hp hPE hfl g hg e Rp hask hS hlen hrs htape hh

end Go.Sl
