/- Walks: package runm, the stack (made by program out of short notes) -/
import Derived.Test.Qxb6500572aGreatDoorMD
import Derived.Test.Qxb6500572aGreatDoorWRunC
import Derived.Test.Qxb6500572aGreatDoorWLoopB
namespace Go.Sl
open Go Go.Wl Go.Proofs
set_option maxRecDepth 100000
set_option linter.unusedVariables false
set_option linter.unusedSimpArgs false
theorem y_geqNo {P : Program} {n : Nat} {ρ : Env} {H : Hp} {ty t u : TypeId} {x y : Operand} {k : IntKind} {a b : Int} (hx : ev ρ x = some (.int k a)) (hy : ev ρ y = some (.int k b)) (h : ¬ (b ≤ a)) : Yo P n (.binOp .geq t x y u) ty ρ H (.bool false) := by
  have := y_geq (P := P) (n := n) (H := H) (ty := ty) (t := t) (u := u) hx hy
  rwa [decide_eq_false h] at this
theorem y_geqYes {P : Program} {n : Nat} {ρ : Env} {H : Hp} {ty t u : TypeId} {x y : Operand} {k : IntKind} {a b : Int} (hx : ev ρ x = some (.int k a)) (hy : ev ρ y = some (.int k b)) (h : b ≤ a) : Yo P n (.binOp .geq t x y u) ty ρ H (.bool true) := by
  have := y_geq (P := P) (n := n) (H := H) (ty := ty) (t := t) (u := u) hx hy
  rwa [decide_eq_true h] at this
theorem y_lssNo {P : Program} {n : Nat} {ρ : Env} {H : Hp} {ty t u : TypeId} {x y : Operand} {k : IntKind} {a b : Int} (hx : ev ρ x = some (.int k a)) (hy : ev ρ y = some (.int k b)) (h : ¬ (a < b)) : Yo P n (.binOp .lss t x y u) ty ρ H (.bool false) := by
  have := y_lss (P := P) (n := n) (H := H) (ty := ty) (t := t) (u := u) hx hy
  rwa [decide_eq_false h] at this
theorem y_lssYes {P : Program} {n : Nat} {ρ : Env} {H : Hp} {ty t u : TypeId} {x y : Operand} {k : IntKind} {a b : Int} (hx : ev ρ x = some (.int k a)) (hy : ev ρ y = some (.int k b)) (h : a < b) : Yo P n (.binOp .lss t x y u) ty ρ H (.bool true) := by
  have := y_lss (P := P) (n := n) (H := H) (ty := ty) (t := t) (u := u) hx hy
  rwa [decide_eq_true h] at this
theorem y_neqNo {P : Program} {n : Nat} {ρ : Env} {H : Hp} {ty t u : TypeId} {x y : Operand} {k : IntKind} {a b : Int} (hx : ev ρ x = some (.int k a)) (hy : ev ρ y = some (.int k b)) (h : ¬ (a ≠ b)) : Yo P n (.binOp .neq t x y u) ty ρ H (.bool false) := by
  have := y_neq (P := P) (n := n) (H := H) (ty := ty) (t := t) (u := u) hx hy
  rwa [decide_eq_false h] at this
theorem y_neqYes {P : Program} {n : Nat} {ρ : Env} {H : Hp} {ty t u : TypeId} {x y : Operand} {k : IntKind} {a b : Int} (hx : ev ρ x = some (.int k a)) (hy : ev ρ y = some (.int k b)) (h : a ≠ b) : Yo P n (.binOp .neq t x y u) ty ρ H (.bool true) := by
  have := y_neq (P := P) (n := n) (H := H) (ty := ty) (t := t) (u := u) hx hy
  rwa [decide_eq_true h] at this
theorem y_gtrNo {P : Program} {n : Nat} {ρ : Env} {H : Hp} {ty t u : TypeId} {x y : Operand} {k : IntKind} {a b : Int} (hx : ev ρ x = some (.int k a)) (hy : ev ρ y = some (.int k b)) (h : ¬ (b < a)) : Yo P n (.binOp .gtr t x y u) ty ρ H (.bool false) := by
  have := y_gtr (P := P) (n := n) (H := H) (ty := ty) (t := t) (u := u) hx hy
  rwa [decide_eq_false h] at this
theorem y_gtrYes {P : Program} {n : Nat} {ρ : Env} {H : Hp} {ty t u : TypeId} {x y : Operand} {k : IntKind} {a b : Int} (hx : ev ρ x = some (.int k a)) (hy : ev ρ y = some (.int k b)) (h : b < a) : Yo P n (.binOp .gtr t x y u) ty ρ H (.bool true) := by
  have := y_gtr (P := P) (n := n) (H := H) (ty := ty) (t := t) (u := u) hx hy
  rwa [decide_eq_true h] at this
theorem y_leqNo {P : Program} {n : Nat} {ρ : Env} {H : Hp} {ty t u : TypeId} {x y : Operand} {k : IntKind} {a b : Int} (hx : ev ρ x = some (.int k a)) (hy : ev ρ y = some (.int k b)) (h : ¬ (a ≤ b)) : Yo P n (.binOp .leq t x y u) ty ρ H (.bool false) := by
  have := y_leq (P := P) (n := n) (H := H) (ty := ty) (t := t) (u := u) hx hy
  rwa [decide_eq_false h] at this
theorem y_leqYes {P : Program} {n : Nat} {ρ : Env} {H : Hp} {ty t u : TypeId} {x y : Operand} {k : IntKind} {a b : Int} (hx : ev ρ x = some (.int k a)) (hy : ev ρ y = some (.int k b)) (h : a ≤ b) : Yo P n (.binOp .leq t x y u) ty ρ H (.bool true) := by
  have := y_leq (P := P) (n := n) (H := H) (ty := ty) (t := t) (u := u) hx hy
  rwa [decide_eq_true h] at this
def wv (y : W) : List Value := [.int .u8 y.t.toNat, I y.n]
theorem wv_len (y : W) : (wv y).length = 2 := rfl
def instR (pv rv kv sv : Value) (E : RE) (R : RS) : List Value := [pv, rv, kv, sv, I E.fuel, I R.used, I R.n, I R.asked, .bool E.host, S E.tape, S R.trace]
/-- The model's instance, as it lies in the heap. -/
def isR (x : Nat) (pv rv kv : Value) (E : RE) (R : RS) (s : Seg) : Prop :=
  ∃ sa sc ss, s = List.flatten [blk x 119 (instR pv rv kv (.slice sa R.st.length sc) E R), ss] ∧ Arr 110 2 sa R.st.length sc (R.st.flatMap wv) ss
theorem isR.intro {x : Nat} {pv rv kv : Value} {E : RE} {R : RS} {sa : Option Addr} {n sc : Nat} {ss : Seg} (e : R.st.length = n) (h : Arr 110 2 sa n sc (R.st.flatMap wv) ss) : isR x pv rv kv E R (List.flatten [blk x 119 (instR pv rv kv (.slice sa n sc) E R), ss]) := by
  subst e; exact ⟨sa, sc, ss, rfl, h⟩
theorem wv_one (l : List W) : (l.flatMap wv).all Value.oneCell' = true := by
  rw [List.all_eq_true]; intro v hv
  obtain ⟨y, _, hy⟩ := List.mem_flatMap.1 hv
  simp only [wv, List.mem_cons, List.not_mem_nil, or_false] at hy
  rcases hy with rfl | rfl <;> rfl

theorem rm_Fetched (x : Nat) (pv rv kv : Value) (E : RE) (R : RS) (s : Seg) (hm : isR x pv rv kv E R s) : Spec Tryz.prog 26 [.pointer (some ⟨x, 0, none⟩)] [s] (Ret fun v H => v = I R.n ∧ H = [s]) := by
  obtain ⟨sa, sc, ss, rfl, hst⟩ := hm
  refine Spec_flat ?_
  simp only [List.cons_append, List.nil_append, instR]
  refine Spec_enter Tryz.func26 rfl Tryz.ntmps26 rfl ?_
  show SP _ _ _ _ _ [(0, _)] _
  refine SP_seq ?_
  refine SP_region ?_
  refine SPL_y (y_assign rfl) rfl ?_
  refine SPL_nil ?_
  refine thenP_n ?_
  refine SP_seq ?_
  refine SP_region ?_
  refine SPL_y (y_move rfl) rfl ?_
  refine SPL_y (y_nil rfl) rfl ?_
  refine SPL_y (y_fa fld_119_6 rfl) rfl ?_
  refine SPL_y (y_load Tryz.isAgg3 rfl (by repeat (first | exact Cell.head rfl | apply Cell.tail))) rfl ?_
  refine SPL_y (y_assign rfl) rfl ?_
  refine SPL_nil ?_
  refine thenP_n ?_
  refine SP_ret ?_
  refine bodyP_ret (H' := [List.flatten [blk x 119 (instR pv rv kv (.slice sa R.st.length sc) E R), ss]]) (Res1 rfl rfl) (by repeat (first | exact Part.nil _ | (apply Part.cons; (first | exact P0 | exact P1 | exact P2 | exact P3 | exact P4 | exact P5 | exact P6 | exact P7 | exact P8 | exact P9 | exact P10 | exact P11 | exact P12 | exact P13 | exact P14 | exact P15 | exact P16 | exact P17 | exact P18 | exact P19 | exact P20 | exact P21 | exact P22 | exact P23)) | (apply Part.flat; simp only [List.cons_append, List.nil_append]) | (apply Part.nilc))) ?_
  exact ⟨rfl, rfl⟩

theorem rm_Trace (x : Nat) (pv rv kv : Value) (E : RE) (R : RS) (s : Seg) (hm : isR x pv rv kv E R s) : Spec Tryz.prog 75 [.pointer (some ⟨x, 0, none⟩)] [s] (Ret fun v H => v = S R.trace ∧ H = [s]) := by
  obtain ⟨sa, sc, ss, rfl, hst⟩ := hm
  refine Spec_flat ?_
  simp only [List.cons_append, List.nil_append, instR]
  refine Spec_enter Tryz.func75 rfl Tryz.ntmps75 rfl ?_
  show SP _ _ _ _ _ [(0, _)] _
  refine SP_seq ?_
  refine SP_region ?_
  refine SPL_y (y_assign rfl) rfl ?_
  refine SPL_nil ?_
  refine thenP_n ?_
  refine SP_seq ?_
  refine SP_region ?_
  refine SPL_y (y_move rfl) rfl ?_
  refine SPL_y (y_nil rfl) rfl ?_
  refine SPL_y (y_fa fld_119_10 rfl) rfl ?_
  refine SPL_y (y_load Tryz.isAgg9 rfl (by repeat (first | exact Cell.head rfl | apply Cell.tail))) rfl ?_
  refine SPL_y (y_assign rfl) rfl ?_
  refine SPL_nil ?_
  refine thenP_n ?_
  refine SP_ret ?_
  refine bodyP_ret (H' := [List.flatten [blk x 119 (instR pv rv kv (.slice sa R.st.length sc) E R), ss]]) (Res1 rfl rfl) (by repeat (first | exact Part.nil _ | (apply Part.cons; (first | exact P0 | exact P1 | exact P2 | exact P3 | exact P4 | exact P5 | exact P6 | exact P7 | exact P8 | exact P9 | exact P10 | exact P11 | exact P12 | exact P13 | exact P14 | exact P15 | exact P16 | exact P17 | exact P18 | exact P19 | exact P20 | exact P21 | exact P22 | exact P23)) | (apply Part.flat; simp only [List.cons_append, List.nil_append]) | (apply Part.nilc))) ?_
  exact ⟨rfl, rfl⟩

theorem rm_payN (x : Nat) (pv rv kv : Value) (E : RE) (R : RS) (s : Seg) (hm : isR x pv rv kv E R s) (h : E.fuel ≤ R.used) : Spec Tryz.prog 155 [.pointer (some ⟨x, 0, none⟩)] [s] (Ret fun v H => ∃ s', v = I 17 ∧ H = [s'] ∧ isR x pv rv kv E R.tick s') := by
  obtain ⟨sa, sc, ss, rfl, hst⟩ := hm
  refine Spec_flat ?_
  simp only [List.cons_append, List.nil_append, instR]
  refine Spec_enter Tryz.func155 rfl Tryz.ntmps155 rfl ?_
  show SP _ _ _ _ _ [(0, _)] _
  refine SP_seq ?_
  refine SP_region ?_
  refine SPL_y (y_assign rfl) rfl ?_
  refine SPL_nil ?_
  refine thenP_n ?_
  refine SP_seq ?_
  refine SP_region ?_
  refine SPL_y (y_move rfl) rfl ?_
  refine SPL_y (y_nil rfl) rfl ?_
  refine SPL_y (y_fa fld_119_6 rfl) rfl ?_
  refine SPL_y (y_load Tryz.isAgg3 rfl (by repeat (first | exact Cell.head rfl | apply Cell.tail))) rfl ?_
  refine SPL_y (y_addw rfl rfl rfl) rfl ?_
  refine SPL_y (y_nil rfl) rfl ?_
  refine SPL_y (y_fa fld_119_6 rfl) rfl ?_
  refine SPL_one rfl (SP1_store Tryz.sizeOf3 rfl rfl rfl (by first | exact U0 | exact U1 | exact U2 | exact U3 | exact U4 | exact U5 | exact U6 | exact U7 | exact U8 | exact U9 | exact U10 | exact U11 | exact U12 | exact U13 | exact U14 | exact U15 | exact U16 | exact U17 | exact U18 | exact U19 | exact U20 | exact U21 | exact U22 | exact U23) (by rfl) ?_)
  refine SPL_nil ?_
  refine thenP_n ?_
  refine SP_seq ?_
  refine SP_seq ?_
  refine SP_draw 999 [(0, 0), (1, 0), (2, 0), (4, 0), (5, 0), (6, 0), (3, 1), (7, 1), (8, 0)] mixed (by kernel_rfl) (fun _ _ _ _ _ h => h) (Part.refl _) ?_
  refine SPO_p rfl (y_move rfl) rfl ?_
  refine SPO_p rfl (y_nil rfl) rfl ?_
  refine SPO_p rfl (y_fa fld_119_5 rfl) rfl ?_
  refine SPO_p rfl (y_move rfl) rfl ?_
  refine SPO_p rfl (y_nil rfl) rfl ?_
  refine SPO_p rfl (y_fa fld_119_4 rfl) rfl ?_
  refine SPO_h rfl (y_load Tryz.isAgg3 rfl (by repeat (first | exact Cell.head rfl | apply Cell.tail))) rfl ?_
  refine SPO_h rfl (y_load Tryz.isAgg3 rfl (by repeat (first | exact Cell.head rfl | apply Cell.tail))) rfl ?_
  refine SPO_p rfl (y_geqYes rfl rfl h) rfl ?_
  refine SPO_nil ?_
  refine thenP_n ?_
  refine SP_cond_t rfl ?_
  refine SP_seq ?_
  refine SP_region ?_
  refine SPL_y (y_assign rfl) rfl ?_
  refine SPL_nil ?_
  refine thenP_n ?_
  refine SP_ret ?_
  refine thenP_ret (bodyP_ret (H' := [List.flatten [blk x 119 (instR pv rv kv (.slice sa R.st.length sc) E R.tick), ss]]) (Res1 rfl rfl) (by repeat (first | exact Part.nil _ | (apply Part.cons; (first | exact P0 | exact P1 | exact P2 | exact P3 | exact P4 | exact P5 | exact P6 | exact P7 | exact P8 | exact P9 | exact P10 | exact P11 | exact P12 | exact P13 | exact P14 | exact P15 | exact P16 | exact P17 | exact P18 | exact P19 | exact P20 | exact P21 | exact P22 | exact P23)) | (apply Part.flat; simp only [List.cons_append, List.nil_append]) | (apply Part.nilc))) ?_)
  exact ⟨_, rfl, rfl, sa, sc, ss, rfl, hst⟩

theorem rm_pay (x : Nat) (pv rv kv : Value) (E : RE) (R : RS) (s : Seg) (hm : isR x pv rv kv E R s) (h : ¬ E.fuel ≤ R.used) (h0 : 0 ≤ R.used) (hf : E.fuel ≤ 9223372036854775807) : Spec Tryz.prog 155 [.pointer (some ⟨x, 0, none⟩)] [s] (Ret fun v H => ∃ s', v = I 0 ∧ H = [s'] ∧ isR x pv rv kv E R.pay s') := by
  obtain ⟨sa, sc, ss, rfl, hst⟩ := hm
  refine Spec_flat ?_
  simp only [List.cons_append, List.nil_append, instR]
  refine Spec_enter Tryz.func155 rfl Tryz.ntmps155 rfl ?_
  show SP _ _ _ _ _ [(0, _)] _
  refine SP_seq ?_
  refine SP_region ?_
  refine SPL_y (y_assign rfl) rfl ?_
  refine SPL_nil ?_
  refine thenP_n ?_
  refine SP_seq ?_
  refine SP_region ?_
  refine SPL_y (y_move rfl) rfl ?_
  refine SPL_y (y_nil rfl) rfl ?_
  refine SPL_y (y_fa fld_119_6 rfl) rfl ?_
  refine SPL_y (y_load Tryz.isAgg3 rfl (by repeat (first | exact Cell.head rfl | apply Cell.tail))) rfl ?_
  refine SPL_y (y_addw rfl rfl rfl) rfl ?_
  refine SPL_y (y_nil rfl) rfl ?_
  refine SPL_y (y_fa fld_119_6 rfl) rfl ?_
  refine SPL_one rfl (SP1_store Tryz.sizeOf3 rfl rfl rfl (by first | exact U0 | exact U1 | exact U2 | exact U3 | exact U4 | exact U5 | exact U6 | exact U7 | exact U8 | exact U9 | exact U10 | exact U11 | exact U12 | exact U13 | exact U14 | exact U15 | exact U16 | exact U17 | exact U18 | exact U19 | exact U20 | exact U21 | exact U22 | exact U23) (by rfl) ?_)
  refine SPL_nil ?_
  refine thenP_n ?_
  refine SP_seq ?_
  refine SP_seq ?_
  refine SP_draw 999 [(0, 0), (1, 0), (2, 0), (4, 0), (5, 0), (6, 0), (3, 1), (7, 1), (8, 0)] mixed (by kernel_rfl) (fun _ _ _ _ _ h => h) (Part.refl _) ?_
  refine SPO_p rfl (y_move rfl) rfl ?_
  refine SPO_p rfl (y_nil rfl) rfl ?_
  refine SPO_p rfl (y_fa fld_119_5 rfl) rfl ?_
  refine SPO_p rfl (y_move rfl) rfl ?_
  refine SPO_p rfl (y_nil rfl) rfl ?_
  refine SPO_p rfl (y_fa fld_119_4 rfl) rfl ?_
  refine SPO_h rfl (y_load Tryz.isAgg3 rfl (by repeat (first | exact Cell.head rfl | apply Cell.tail))) rfl ?_
  refine SPO_h rfl (y_load Tryz.isAgg3 rfl (by repeat (first | exact Cell.head rfl | apply Cell.tail))) rfl ?_
  refine SPO_p rfl (y_geqNo rfl rfl h) rfl ?_
  refine SPO_nil ?_
  refine thenP_n ?_
  refine SP_cond_f rfl ?_
  refine SP_skip ?_
  refine thenP_n ?_
  refine SP_seq ?_
  refine SP_region ?_
  refine SPL_y (y_move rfl) rfl ?_
  refine SPL_y (y_nil rfl) rfl ?_
  refine SPL_y (y_fa fld_119_5 rfl) rfl ?_
  refine SPL_y (y_load Tryz.isAgg3 rfl (by repeat (first | exact Cell.head rfl | apply Cell.tail))) rfl ?_
  refine SPL_y (y_add rfl rfl (by omega)) rfl ?_
  refine SPL_y (y_nil rfl) rfl ?_
  refine SPL_y (y_fa fld_119_5 rfl) rfl ?_
  refine SPL_one rfl (SP1_store Tryz.sizeOf3 rfl rfl rfl (by first | exact U0 | exact U1 | exact U2 | exact U3 | exact U4 | exact U5 | exact U6 | exact U7 | exact U8 | exact U9 | exact U10 | exact U11 | exact U12 | exact U13 | exact U14 | exact U15 | exact U16 | exact U17 | exact U18 | exact U19 | exact U20 | exact U21 | exact U22 | exact U23) (by rfl) ?_)
  refine SPL_nil ?_
  refine thenP_n ?_
  refine SP_seq ?_
  refine SP_region ?_
  refine SPL_y (y_assign rfl) rfl ?_
  refine SPL_nil ?_
  refine thenP_n ?_
  refine SP_ret ?_
  refine bodyP_ret (H' := [List.flatten [blk x 119 (instR pv rv kv (.slice sa R.st.length sc) E R.pay), ss]]) (Res1 rfl rfl) (by repeat (first | exact Part.nil _ | (apply Part.cons; (first | exact P0 | exact P1 | exact P2 | exact P3 | exact P4 | exact P5 | exact P6 | exact P7 | exact P8 | exact P9 | exact P10 | exact P11 | exact P12 | exact P13 | exact P14 | exact P15 | exact P16 | exact P17 | exact P18 | exact P19 | exact P20 | exact P21 | exact P22 | exact P23)) | (apply Part.flat; simp only [List.cons_append, List.nil_append]) | (apply Part.nilc))) ?_
  exact ⟨_, rfl, rfl, sa, sc, ss, rfl, hst⟩

theorem rm_push (x : Nat) (pv rv kv : Value) (E : RE) (R : RS) (s : Seg) (hm : isR x pv rv kv E R s) (y : W) (hz : R.st.length ≤ 1000000) : Spec Tryz.prog 163 [.pointer (some ⟨x, 0, none⟩), .int .u8 y.t.toNat, I y.n] [s] (Ret fun v H => ∃ s', v = .tuple #[] ∧ H = [s'] ∧ isR x pv rv kv E { R with st := R.st ++ [y] } s') := by
  obtain ⟨sa, sc, ss, rfl, hst⟩ := hm
  refine Spec_flat ?_
  simp only [List.cons_append, List.nil_append, instR]
  refine Spec_enter Tryz.func163 rfl Tryz.ntmps163 rfl ?_
  show SP _ _ _ _ _ [(0, _), (1, _), (2, _)] _
  refine SP_region ?_
  refine SPL_y (y_move rfl) rfl ?_
  refine SPL_y (y_move rfl) rfl ?_
  refine SPL_y (y_nil rfl) rfl ?_
  refine SPL_y (y_fa fld_119_3 rfl) rfl ?_
  refine SPL_y (y_load Tryz.isAgg35 rfl (by repeat (first | exact Cell.head rfl | apply Cell.tail))) rfl ?_
  refine SPL_y (y_move rfl) rfl ?_
  refine SPL_y (y_move rfl) rfl ?_
  refine SPL_y (y_build B110 rfl rfl (by simp only [fillL, List.foldl_cons, List.foldl_nil, List.set_cons_zero, List.set_cons_succ]; exact rfl)) rfl ?_
  refine SPL_one rfl (SP1_slice1 el_35 rfl rfl rfl rfl rfl ?_)
  intro b14
  refine SPL_one rfl (SP1_append el_35 (.inl Tryz.underlying35) rfl rfl hst (by first | exact P0 | exact P1 | exact P2 | exact P3 | exact P4 | exact P5 | exact P6 | exact P7 | exact P8 | exact P9 | exact P10 | exact P11 | exact P12 | exact P13 | exact P14 | exact P15 | exact P16 | exact P17 | exact P18 | exact P19 | exact P20 | exact P21 | exact P22 | exact P23) (Src.of (by repeat (first | exact Cells.all _ | exact Cells.head rfl | apply Cells.tail)) (by rfl)) (by rfl) (by omega) rfl ?_)
  intro a1 c1 s1 h1
  refine SPL_y (y_nil rfl) rfl ?_
  refine SPL_y (y_fa fld_119_3 rfl) rfl ?_
  refine SPL_one rfl (SP1_store Tryz.sizeOf35 rfl rfl rfl (by first | exact U0 | exact U1 | exact U2 | exact U3 | exact U4 | exact U5 | exact U6 | exact U7 | exact U8 | exact U9 | exact U10 | exact U11 | exact U12 | exact U13 | exact U14 | exact U15 | exact U16 | exact U17 | exact U18 | exact U19 | exact U20 | exact U21 | exact U22 | exact U23) (by rfl) ?_)
  refine SPL_nil ?_
  refine bodyP_end (H' := [List.flatten [blk x 119 (instR pv rv kv (.slice a1 (R.st.length + 1) c1) E { R with st := R.st ++ [y] }), s1]]) (Res0 rfl) (by repeat (first | exact Part.nil _ | (apply Part.cons; (first | exact P0 | exact P1 | exact P2 | exact P3 | exact P4 | exact P5 | exact P6 | exact P7 | exact P8 | exact P9 | exact P10 | exact P11 | exact P12 | exact P13 | exact P14 | exact P15 | exact P16 | exact P17 | exact P18 | exact P19 | exact P20 | exact P21 | exact P22 | exact P23)) | (apply Part.flat; simp only [List.cons_append, List.nil_append]) | (apply Part.nilc))) ?_
  exact ⟨_, rfl, rfl, isR.intro (by simp) (by rw [List.flatMap_append]; simpa [wv] using h1)⟩

theorem last2 {st : List W} (h : 0 < st.length) : ∃ A y, st = A ++ [y] ∧ A = st.dropLast ∧ y = lst st := by
  refine ⟨st.dropLast, lst st, last1 (k := 0) h, rfl, rfl⟩

theorem rm_pop (x : Nat) (pv rv kv : Value) (E : RE) (R : RS) (s : Seg) (hm : isR x pv rv kv E R s) (A : List W) (y : W) (hy : R.st = A ++ [y]) (t : UInt8) (ht : y.t = t) (hz : R.st.length ≤ 1000000) : Spec Tryz.prog 156 [.pointer (some ⟨x, 0, none⟩), .int .u8 t.toNat] [s] (Ret fun v H => ∃ s', v = .tuple #[I y.n, .bool true] ∧ H = [s'] ∧ isR x pv rv kv E { R with st := A } s') := by
  have hl : R.st.length = A.length + 1 := by rw [hy]; simp
  have hli : A.length < R.st.length := by omega
  have hyi : R.st[A.length] = y := by simp [hy]
  obtain ⟨sa, sc, ss, rfl, hst⟩ := hm
  refine Spec_flat ?_
  simp only [List.cons_append, List.nil_append, instR]
  obtain ⟨bs, sps, rfl, hsc, hsps, rfl⟩ := hst.row (by omega)
  refine Spec_enter Tryz.func156 rfl Tryz.ntmps156 rfl ?_
  show SP _ _ _ _ _ [(0, _), (1, _)] _
  refine SP_seq ?_
  refine SP_region ?_
  refine SPL_y (y_assign rfl) rfl ?_
  refine SPL_y (y_assign rfl) rfl ?_
  refine SPL_nil ?_
  refine thenP_n ?_
  refine SP_seq ?_
  refine SP_seq ?_
  refine SP_draw 999 [(0, 0), (1, 0), (2, 0), (3, 1), (4, 0), (5, 0), (6, 0), (7, 0), (8, 0), (9, 0), (11, 0), (12, 0), (13, 0), (20, 0), (10, 1), (14, 1), (15, 0), (16, 0), (17, 0), (18, 0), (19, 1), (21, 0), (22, 0)] mixed (by kernel_rfl) (fun _ _ _ _ _ h => h) (Part.refl _) ?_
  refine SPO_p rfl (y_move rfl) rfl ?_
  refine SPO_p rfl (y_nil rfl) rfl ?_
  refine SPO_p rfl (y_fa fld_119_3 rfl) rfl ?_
  refine SPO_h rfl (y_load Tryz.isAgg35 rfl (by repeat (first | exact Cell.head rfl | apply Cell.tail))) rfl ?_
  refine SPO_p rfl (y_len_l Tryz.underlying35 rfl) rfl ?_
  refine SPO_p rfl (y_eqlF rfl rfl (by omega)) rfl ?_
  refine SPO_p rfl (y_move rfl) rfl ?_
  refine SPO_py rfl rfl rfl (y_move rfl) rfl ?_
  refine SPO_py rfl rfl rfl (y_nil rfl) rfl ?_
  refine SPO_py rfl rfl rfl (y_fa fld_119_3 rfl) rfl ?_
  refine SPO_py rfl rfl rfl (y_move rfl) rfl ?_
  refine SPO_py rfl rfl rfl (y_nil rfl) rfl ?_
  refine SPO_py rfl rfl rfl (y_fa fld_119_3 rfl) rfl ?_
  refine SPO_py rfl rfl rfl (y_move rfl) rfl ?_
  refine SPO_hy rfl rfl rfl (y_load Tryz.isAgg35 rfl (by repeat (first | exact Cell.head rfl | apply Cell.tail))) rfl ?_
  refine SPO_hy rfl rfl rfl (y_load Tryz.isAgg35 rfl (by repeat (first | exact Cell.head rfl | apply Cell.tail))) rfl ?_
  refine SPO_py rfl rfl rfl (y_len_l Tryz.underlying35 rfl) rfl ?_
  refine SPO_py rfl rfl rfl (y_sub rfl rfl (by omega)) rfl ?_
  refine SPO_py rfl rfl rfl (y_ia Tryz.underlying35 Tryz.sizeOf110 rfl rfl (by omega)) rfl ?_
  refine SPO_py rfl rfl rfl (y_fa fld_110_0 rfl) rfl ?_
  refine SPO_hy rfl rfl rfl (y_load Tryz.isAgg5 rfl (by repeat (first | exact flat_cellE wv_len (i := A.length) (q := 0) (by omega) hli hyi rfl | apply Cell.tail))) rfl ?_
  refine SPO_pyif rfl rfl rfl (y_neq rfl rfl) rfl ?_ ?_
  · intro h1_21
    exact absurd (by rw [ht]) h1_21
  intro h1_21
  refine SPO_p rfl (y_pick_f rfl rfl) rfl ?_
  refine SPO_nil ?_
  refine thenP_n ?_
  refine SP_cond_f rfl ?_
  refine SP_skip ?_
  refine thenP_n ?_
  refine SP_seq ?_
  refine SP_draw 999 [(0, 0), (1, 0), (2, 0), (4, 0), (5, 0), (6, 0), (3, 1), (7, 1), (8, 0), (9, 0), (10, 0), (11, 0), (12, 1), (13, 0)] mixed (by kernel_rfl) (fun _ _ _ _ _ h => h) (Part.refl _) ?_
  refine SPO_p rfl (y_move rfl) rfl ?_
  refine SPO_p rfl (y_nil rfl) rfl ?_
  refine SPO_p rfl (y_fa fld_119_3 rfl) rfl ?_
  refine SPO_p rfl (y_move rfl) rfl ?_
  refine SPO_p rfl (y_nil rfl) rfl ?_
  refine SPO_p rfl (y_fa fld_119_3 rfl) rfl ?_
  refine SPO_h rfl (y_load Tryz.isAgg35 rfl (by repeat (first | exact Cell.head rfl | apply Cell.tail))) rfl ?_
  refine SPO_h rfl (y_load Tryz.isAgg35 rfl (by repeat (first | exact Cell.head rfl | apply Cell.tail))) rfl ?_
  refine SPO_p rfl (y_len_l Tryz.underlying35 rfl) rfl ?_
  refine SPO_p rfl (y_sub rfl rfl (by omega)) rfl ?_
  refine SPO_p rfl (y_ia Tryz.underlying35 Tryz.sizeOf110 rfl rfl (by omega)) rfl ?_
  refine SPO_p rfl (y_fa fld_110_1 rfl) rfl ?_
  refine SPO_h rfl (y_load Tryz.isAgg3 rfl (by repeat (first | exact flat_cellE wv_len (i := A.length) (q := 1) (by omega) hli hyi rfl | apply Cell.tail))) rfl ?_
  refine SPO_p rfl (y_assign rfl) rfl ?_
  refine SPO_nil ?_
  refine thenP_n ?_
  refine SP_seq ?_
  refine SP_draw 14 [(0, 0), (1, 0), (2, 0), (3, 0), (5, 0), (6, 0), (7, 0), (4, 1), (8, 1), (9, 0), (10, 0), (11, 0), (12, 0), (13, 0), (14, 3)] mixed (by kernel_rfl) (fun _ _ _ _ _ h => h) (Part.refl _) ?_
  refine SPO_p rfl (y_move rfl) rfl ?_
  refine SPO_p rfl (y_move rfl) rfl ?_
  refine SPO_p rfl (y_nil rfl) rfl ?_
  refine SPO_p rfl (y_fa fld_119_3 rfl) rfl ?_
  refine SPO_p rfl (y_move rfl) rfl ?_
  refine SPO_p rfl (y_nil rfl) rfl ?_
  refine SPO_p rfl (y_fa fld_119_3 rfl) rfl ?_
  refine SPO_h rfl (y_load Tryz.isAgg35 rfl (by repeat (first | exact Cell.head rfl | apply Cell.tail))) rfl ?_
  refine SPO_h rfl (y_load Tryz.isAgg35 rfl (by repeat (first | exact Cell.head rfl | apply Cell.tail))) rfl ?_
  refine SPO_p rfl (y_len_l Tryz.underlying35 rfl) rfl ?_
  refine SPO_p rfl (y_sub rfl rfl (by omega)) rfl ?_
  refine SPO_p rfl (y_cut hst Tryz.underlying35 Tryz.sizeOf110 rfl rfl (by omega)) rfl ?_
  refine SPO_p rfl (y_nil rfl) rfl ?_
  refine SPO_p rfl (y_fa fld_119_3 rfl) rfl ?_
  refine SPO_z (k := 0) rfl rfl (SP1_store Tryz.sizeOf35 rfl rfl rfl (by first | exact U0 | exact U1 | exact U2 | exact U3 | exact U4 | exact U5 | exact U6 | exact U7 | exact U8 | exact U9 | exact U10 | exact U11 | exact U12 | exact U13 | exact U14 | exact U15 | exact U16 | exact U17 | exact U18 | exact U19 | exact U20 | exact U21 | exact U22 | exact U23) (by rfl) ?_)
  refine SPO_nil ?_
  refine thenP_n ?_
  refine SP_seq ?_
  refine SP_region ?_
  refine SPL_y (y_move rfl) rfl ?_
  refine SPL_y (y_assign rfl) rfl ?_
  refine SPL_y (y_assign rfl) rfl ?_
  refine SPL_nil ?_
  refine thenP_n ?_
  refine SP_ret ?_
  refine bodyP_ret (H' := [List.flatten [blk x 119 (instR pv rv kv (.slice (some ⟨bs, 0, none⟩) ((R.st.length : Int) - 1).toNat sc) E { R with st := A }), blk bs 110 (R.st.flatMap wv ++ sps)]]) (Res2 rfl rfl rfl) (by repeat (first | exact Part.nil _ | (apply Part.cons; (first | exact P0 | exact P1 | exact P2 | exact P3 | exact P4 | exact P5 | exact P6 | exact P7 | exact P8 | exact P9 | exact P10 | exact P11 | exact P12 | exact P13 | exact P14 | exact P15 | exact P16 | exact P17 | exact P18 | exact P19 | exact P20 | exact P21 | exact P22 | exact P23)) | (apply Part.flat; simp only [List.cons_append, List.nil_append]) | (apply Part.nilc))) ?_
  refine ⟨_, rfl, rfl, isR.intro (by dsimp only; omega) ?_⟩
  have := hst.cut (j := ((R.st.length : Int) - 1).toNat) (by omega)
  rw [flat_take wv_len (by omega)] at this
  have e : R.st.take A.length = A := by rw [hy, List.take_left]
  rw [show ((R.st.length : Int) - 1).toNat = A.length by omega] at this ⊢
  rw [e] at this
  exact this

end Go.Sl
