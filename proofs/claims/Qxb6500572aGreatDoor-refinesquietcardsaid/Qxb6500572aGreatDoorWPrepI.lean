/- Walks: package prep, the dispatch (made by program out of short notes) -/
import Derived.Test.Qxb6500572aGreatDoorWPrepH
namespace Go.Sl
open Go Go.Wl Go.Proofs
set_option maxRecDepth 100000
set_option linter.unusedVariables false
set_option linter.unusedSimpArgs false
theorem swap_code (C : Chk) (i o : List UInt8) : (swap C i o).1.code = C.code := (pops_less C i).2.1
theorem leaves_code (C : Chk) (l : List UInt8) : (leaves C l).1.code = C.code := (pops_less C l).2.1
theorem sel_code (C : Chk) : (sel C).1.code = C.code := by
  unfold sel; dsimp only
  rw [pop_code, pop_code]; exact (pops_less C [105]).2.1
theorem special_code {fs : List Fun} {u : Fun} {C : Chk} {c : Ins} {r : Chk × Int} (h : special fs u C c = some r) : r.1.code = C.code := by
  unfold special at h
  split at h
  · cases h; exact leaves_code _ _
  split at h
  · cases h; exact leaves_code _ _
  split at h
  · cases h; exact (pops_less _ _).2.1
  split at h
  · cases h; unfold callI; split
    · rfl
    · split
      · exact swap_code _ _ _
      · rfl
  split at h
  · cases h; exact sel_code _
  split at h
  · cases h; unfold localI; split
    · rfl
    · dsimp only; split
      · exact (pops_less _ _).2.1
      · exact swap_code _ _ _
  cases h

theorem sigP_t {op : Int} {i o : List UInt8} (h : sigP op = (i, o, true)) : sigs op = some (i, o) := by
  unfold sigP at h; cases hs : sigs op with
  | none => rw [hs] at h; cases h
  | some p => rw [hs] at h; cases h; rfl
theorem sigP_f {op : Int} {i o : List UInt8} (h : sigP op = (i, o, false)) : sigs op = none := by
  unfold sigP at h; cases hs : sigs op with
  | none => rfl
  | some p => rw [hs] at h; cases h
theorem sigs_small {op : Int} {p : List UInt8 × List UInt8} (h : sigs op = some p) : p.1.length ≤ 2 ∧ p.2.length ≤ 1 := by
  unfold sigs at h
  repeat' (split at h)
  all_goals (cases h <;> constructor <;> simp)
theorem sigs_len (op : Int) : (sigP op).1.length ≤ 1000 ∧ (sigP op).2.1.length ≤ 1000 := by
  unfold sigP
  cases hs : sigs op with
  | none => simp
  | some p => have := sigs_small hs; simp only; omega

theorem prep_one (k pb bf : Nat) (oa : Option Addr) (C : Chk) (s : Seg) (P : Prog) (steps : Int) (sp : Seg) (fi : Nat) (u : Fun) (kb ub : Nat) (c : Ins) (mb : Nat) (hm : isChk k (.pointer (some ⟨pb, 0, none⟩)) (.pointer (some ⟨bf, 0 + ((fi : Nat) : Int).toNat * 4, none⟩)) (.map (some mb)) oa C s) (hN : 0 < C.opn.length) (hht : C.top.height ≤ C.st.length) (hz : C.st.length ≤ 100000 ∧ C.opn.length ≤ 100000 ∧ C.code.length ≤ 100000) (hp : isProg pb (some ⟨bf, 0, none⟩) P steps sp) (hpz : ∀ f, f ∈ P.funs → f.params.length ≤ 100 ∧ f.results.length ≤ 100 ∧ f.locals.length ≤ 100) (hfi : P.funs[fi]? = some u) (hw : ∀ b, b ∈ C.opn → b.wait.length ≤ 1000) (hcar : ∀ b, b ∈ C.opn → b.carry.length ≤ 100) (hres : C.top.res.length ≤ 1000) (hwell : well c = true) (h4 : c.op = 4 → ∃ a, C.top.alt = some a ∧ a < C.code.length) (h5 : c.op = 5 → (∀ a, C.top.alt = some a → a < C.code.length) ∧ (∀ a, a ∈ C.top.wait → a < C.code.length)) : Spec Tryz.prog 79 [.pointer (some ⟨k, 0, none⟩), .agg (insV c).toArray] ([s, sp] ++ isOn k bf fi mb kb ub) (Ret fun v H => ∃ oa' s', v = I (one P.funs u C c).2 ∧ H = [s', sp] ++ isOn k bf fi mb kb ub ∧ isChk k (.pointer (some ⟨pb, 0, none⟩)) (.pointer (some ⟨bf, 0 + ((fi : Nat) : Int).toNat * 4, none⟩)) (.map (some mb)) oa' (one P.funs u C c).1 s') := by
  have hwp : wellP c.op c.imm c.tab.length := by unfold well at hwell; simpa using hwell
  unfold wellP at hwp
  simp only [isOn, List.cons_append, List.nil_append]
  have hz' : C.st.length ≤ 1000000 ∧ C.opn.length ≤ 1000000 ∧ C.code.length ≤ 1000000 := ⟨by omega, by omega, by omega⟩
  refine Spec_enter Tryz.func79 rfl Tryz.ntmps79 rfl ?_
  show SP _ _ _ _ _ [(0, _), (1, _)] _
  refine SP_seq ?_
  refine SP_region ?_
  refine SPL_one rfl (SP1_box rfl rfl rfl ?_)
  intro b3
  refine SPL_y (y_assign rfl) rfl ?_
  refine SPL_nil ?_
  refine thenP_n ?_
  refine SP_seq ?_
  refine SP_seq ?_
  refine SP_region ?_
  refine SPL_y (y_fa fld_87_0 rfl) rfl ?_
  refine SPL_y (y_load Tryz.isAgg3 rfl (by repeat (first | exact Cell.head rfl | apply Cell.tail))) rfl ?_
  refine SPL_nil ?_
  refine thenP_n ?_
  refine SP_block ?_
  refine SP_seq ?_
  refine SP_seq ?_
  refine SP_region ?_
  refine SPL_if (y_eql rfl rfl) rfl ?_ ?_
  · intro h2_0
    refine SPL_y (y_assign rfl) rfl ?_
    refine SPL_nil ?_
    refine thenP_n ?_
    refine SP_cond_t rfl ?_
    refine SP_skip ?_
    refine thenP_n ?_
    refine SP_cond_t rfl ?_
    refine SP_seq ?_
    refine SP_region ?_
    refine SPL_y (y_move rfl) rfl ?_
    refine SPL_y (y_loads Tryz.isAgg87 Tryz.sizeOf87 rfl rfl (by repeat (first | exact Cells.all _ | exact Cells.head rfl | apply Cells.tail))) rfl ?_
    refine SPL_one rfl (SP1_call (prep_enter k (.pointer (some ⟨pb, 0, none⟩)) (.pointer (some ⟨bf, 0 + ((fi : Nat) : Int).toNat * 4, none⟩)) (.map (some mb)) oa C s c hm hN hht hz' (by omega)) Tryz.call116 rfl rfl (by repeat (first | exact Part.nil _ | (apply Part.cons; (first | exact P0 | exact P1 | exact P2 | exact P3 | exact P4 | exact P5 | exact P6 | exact P7 | exact P8 | exact P9 | exact P10 | exact P11 | exact P12 | exact P13 | exact P14 | exact P15 | exact P16 | exact P17 | exact P18 | exact P19 | exact P20 | exact P21 | exact P22 | exact P23)) | (apply Part.flat; simp only [List.cons_append, List.nil_append]) | (apply Part.nilc))) ?_)
    rintro v post H' ⟨oa', s1, rfl, rfl, hm1⟩ hH
    try simp only [List.cons_append, List.nil_append] at hH
    subst hH
    refine SPL_y (y_assign rfl) rfl ?_
    refine SPL_nil ?_
    refine thenP_n ?_
    refine SP_ret ?_
    refine inBlockP_ret (thenP_ret (bodyP_ret (H' := [s1, sp, mp mb (onE k kb ub), blk kb 185 [.pointer (some ⟨k, 0, none⟩)], blk ub 105 [.pointer (some ⟨bf, 0 + ((fi : Nat) : Int).toNat * 4, none⟩)]]) (Res1 rfl rfl) (by repeat (first | exact Part.nil _ | (apply Part.cons; (first | exact P0 | exact P1 | exact P2 | exact P3 | exact P4 | exact P5 | exact P6 | exact P7 | exact P8 | exact P9 | exact P10 | exact P11 | exact P12 | exact P13 | exact P14 | exact P15 | exact P16 | exact P17 | exact P18 | exact P19 | exact P20 | exact P21 | exact P22 | exact P23)) | (apply Part.flat; simp only [List.cons_append, List.nil_append]) | (apply Part.nilc))) ?_))
    have e : one P.funs u C c = enter C c := by unfold one; rw [if_pos (by omega)]
    rw [e]
    exact ⟨oa', _, rfl, rfl, hm1⟩
  intro h2_0
  refine SPL_y (y_assign rfl) rfl ?_
  refine SPL_nil ?_
  refine thenP_n ?_
  refine SP_cond_f rfl ?_
  refine SP_seq ?_
  refine SP_region ?_
  refine SPL_if (y_eql rfl rfl) rfl ?_ ?_
  · intro h3_0
    refine SPL_y (y_assign rfl) rfl ?_
    refine SPL_nil ?_
    refine thenP_n ?_
    refine SP_cond_t rfl ?_
    refine SP_skip ?_
    refine thenP_n ?_
    refine SP_cond_t rfl ?_
    refine SP_seq ?_
    refine SP_region ?_
    refine SPL_y (y_move rfl) rfl ?_
    refine SPL_y (y_loads Tryz.isAgg87 Tryz.sizeOf87 rfl rfl (by repeat (first | exact Cells.all _ | exact Cells.head rfl | apply Cells.tail))) rfl ?_
    refine SPL_one rfl (SP1_call (prep_enter k (.pointer (some ⟨pb, 0, none⟩)) (.pointer (some ⟨bf, 0 + ((fi : Nat) : Int).toNat * 4, none⟩)) (.map (some mb)) oa C s c hm hN hht hz' (by omega)) Tryz.call116 rfl rfl (by repeat (first | exact Part.nil _ | (apply Part.cons; (first | exact P0 | exact P1 | exact P2 | exact P3 | exact P4 | exact P5 | exact P6 | exact P7 | exact P8 | exact P9 | exact P10 | exact P11 | exact P12 | exact P13 | exact P14 | exact P15 | exact P16 | exact P17 | exact P18 | exact P19 | exact P20 | exact P21 | exact P22 | exact P23)) | (apply Part.flat; simp only [List.cons_append, List.nil_append]) | (apply Part.nilc))) ?_)
    rintro v post H' ⟨oa', s1, rfl, rfl, hm1⟩ hH
    try simp only [List.cons_append, List.nil_append] at hH
    subst hH
    refine SPL_y (y_assign rfl) rfl ?_
    refine SPL_nil ?_
    refine thenP_n ?_
    refine SP_ret ?_
    refine inBlockP_ret (thenP_ret (bodyP_ret (H' := [s1, sp, mp mb (onE k kb ub), blk kb 185 [.pointer (some ⟨k, 0, none⟩)], blk ub 105 [.pointer (some ⟨bf, 0 + ((fi : Nat) : Int).toNat * 4, none⟩)]]) (Res1 rfl rfl) (by repeat (first | exact Part.nil _ | (apply Part.cons; (first | exact P0 | exact P1 | exact P2 | exact P3 | exact P4 | exact P5 | exact P6 | exact P7 | exact P8 | exact P9 | exact P10 | exact P11 | exact P12 | exact P13 | exact P14 | exact P15 | exact P16 | exact P17 | exact P18 | exact P19 | exact P20 | exact P21 | exact P22 | exact P23)) | (apply Part.flat; simp only [List.cons_append, List.nil_append]) | (apply Part.nilc))) ?_))
    have e : one P.funs u C c = enter C c := by unfold one; rw [if_pos (by omega)]
    rw [e]
    exact ⟨oa', _, rfl, rfl, hm1⟩
  intro h3_0
  refine SPL_y (y_assign rfl) rfl ?_
  refine SPL_nil ?_
  refine thenP_n ?_
  refine SP_cond_f rfl ?_
  refine SP_region ?_
  refine SPL_if (y_eql rfl rfl) rfl ?_ ?_
  · intro h4_0
    refine SPL_y (y_assign rfl) rfl ?_
    refine SPL_nil ?_
    refine thenP_n ?_
    refine SP_cond_t rfl ?_
    refine SP_seq ?_
    refine SP_region ?_
    refine SPL_y (y_move rfl) rfl ?_
    refine SPL_y (y_loads Tryz.isAgg87 Tryz.sizeOf87 rfl rfl (by repeat (first | exact Cells.all _ | exact Cells.head rfl | apply Cells.tail))) rfl ?_
    refine SPL_one rfl (SP1_call (prep_enter k (.pointer (some ⟨pb, 0, none⟩)) (.pointer (some ⟨bf, 0 + ((fi : Nat) : Int).toNat * 4, none⟩)) (.map (some mb)) oa C s c hm hN hht hz' (by omega)) Tryz.call116 rfl rfl (by repeat (first | exact Part.nil _ | (apply Part.cons; (first | exact P0 | exact P1 | exact P2 | exact P3 | exact P4 | exact P5 | exact P6 | exact P7 | exact P8 | exact P9 | exact P10 | exact P11 | exact P12 | exact P13 | exact P14 | exact P15 | exact P16 | exact P17 | exact P18 | exact P19 | exact P20 | exact P21 | exact P22 | exact P23)) | (apply Part.flat; simp only [List.cons_append, List.nil_append]) | (apply Part.nilc))) ?_)
    rintro v post H' ⟨oa', s1, rfl, rfl, hm1⟩ hH
    try simp only [List.cons_append, List.nil_append] at hH
    subst hH
    refine SPL_y (y_assign rfl) rfl ?_
    refine SPL_nil ?_
    refine thenP_n ?_
    refine SP_ret ?_
    refine inBlockP_ret (thenP_ret (bodyP_ret (H' := [s1, sp, mp mb (onE k kb ub), blk kb 185 [.pointer (some ⟨k, 0, none⟩)], blk ub 105 [.pointer (some ⟨bf, 0 + ((fi : Nat) : Int).toNat * 4, none⟩)]]) (Res1 rfl rfl) (by repeat (first | exact Part.nil _ | (apply Part.cons; (first | exact P0 | exact P1 | exact P2 | exact P3 | exact P4 | exact P5 | exact P6 | exact P7 | exact P8 | exact P9 | exact P10 | exact P11 | exact P12 | exact P13 | exact P14 | exact P15 | exact P16 | exact P17 | exact P18 | exact P19 | exact P20 | exact P21 | exact P22 | exact P23)) | (apply Part.flat; simp only [List.cons_append, List.nil_append]) | (apply Part.nilc))) ?_))
    have e : one P.funs u C c = enter C c := by unfold one; rw [if_pos (by omega)]
    rw [e]
    exact ⟨oa', _, rfl, rfl, hm1⟩
  intro h4_0
  refine SPL_y (y_assign rfl) rfl ?_
  refine SPL_nil ?_
  refine thenP_n ?_
  refine SP_cond_f rfl ?_
  refine SP_seq ?_
  refine SP_region ?_
  refine SPL_if (y_eql rfl rfl) rfl ?_ ?_
  · intro h6_0
    refine SPL_y (y_assign rfl) rfl ?_
    refine SPL_nil ?_
    refine thenP_n ?_
    refine SP_cond_t rfl ?_
    refine SP_seq ?_
    obtain ⟨ta, hta1, hta2⟩ := h4 (by omega)
    refine SP_region ?_
    refine SPL_y (y_move rfl) rfl ?_
    refine SPL_one rfl (SP1_call (prep_turn k (.pointer (some ⟨pb, 0, none⟩)) (.pointer (some ⟨bf, 0 + ((fi : Nat) : Int).toNat * 4, none⟩)) (.map (some mb)) oa C s ta hm hN hht hz hres hw hta1 hta2) Tryz.call117 rfl rfl (by repeat (first | exact Part.nil _ | (apply Part.cons; (first | exact P0 | exact P1 | exact P2 | exact P3 | exact P4 | exact P5 | exact P6 | exact P7 | exact P8 | exact P9 | exact P10 | exact P11 | exact P12 | exact P13 | exact P14 | exact P15 | exact P16 | exact P17 | exact P18 | exact P19 | exact P20 | exact P21 | exact P22 | exact P23)) | (apply Part.flat; simp only [List.cons_append, List.nil_append]) | (apply Part.nilc))) ?_)
    rintro v post H' ⟨s1, rfl, rfl, hm1⟩ hH
    try simp only [List.cons_append, List.nil_append] at hH
    subst hH
    refine SPL_y (y_assign rfl) rfl ?_
    refine SPL_nil ?_
    refine thenP_n ?_
    refine SP_ret ?_
    refine inBlockP_ret (thenP_ret (bodyP_ret (H' := [s1, sp, mp mb (onE k kb ub), blk kb 185 [.pointer (some ⟨k, 0, none⟩)], blk ub 105 [.pointer (some ⟨bf, 0 + ((fi : Nat) : Int).toNat * 4, none⟩)]]) (Res1 rfl rfl) (by repeat (first | exact Part.nil _ | (apply Part.cons; (first | exact P0 | exact P1 | exact P2 | exact P3 | exact P4 | exact P5 | exact P6 | exact P7 | exact P8 | exact P9 | exact P10 | exact P11 | exact P12 | exact P13 | exact P14 | exact P15 | exact P16 | exact P17 | exact P18 | exact P19 | exact P20 | exact P21 | exact P22 | exact P23)) | (apply Part.flat; simp only [List.cons_append, List.nil_append]) | (apply Part.nilc))) ?_))
    have e : one P.funs u C c = turn C := by unfold one; rw [if_neg (by omega), if_pos (by omega)]
    rw [e]
    exact ⟨oa, _, rfl, rfl, hm1⟩
  intro h6_0
  refine SPL_y (y_assign rfl) rfl ?_
  refine SPL_nil ?_
  refine thenP_n ?_
  refine SP_cond_f rfl ?_
  refine SP_seq ?_
  refine SP_region ?_
  refine SPL_if (y_eql rfl rfl) rfl ?_ ?_
  · intro h8_0
    refine SPL_y (y_assign rfl) rfl ?_
    refine SPL_nil ?_
    refine thenP_n ?_
    refine SP_cond_t rfl ?_
    refine SP_seq ?_
    refine SP_region ?_
    refine SPL_y (y_move rfl) rfl ?_
    refine SPL_one rfl (SP1_call (prep_leave k (.pointer (some ⟨pb, 0, none⟩)) (.pointer (some ⟨bf, 0 + ((fi : Nat) : Int).toNat * 4, none⟩)) (.map (some mb)) oa C s hm hN hht hz hres hw (h5 (by omega)).1 (h5 (by omega)).2) Tryz.call118 rfl rfl (by repeat (first | exact Part.nil _ | (apply Part.cons; (first | exact P0 | exact P1 | exact P2 | exact P3 | exact P4 | exact P5 | exact P6 | exact P7 | exact P8 | exact P9 | exact P10 | exact P11 | exact P12 | exact P13 | exact P14 | exact P15 | exact P16 | exact P17 | exact P18 | exact P19 | exact P20 | exact P21 | exact P22 | exact P23)) | (apply Part.flat; simp only [List.cons_append, List.nil_append]) | (apply Part.nilc))) ?_)
    rintro v post H' ⟨s1, rfl, rfl, hm1⟩ hH
    try simp only [List.cons_append, List.nil_append] at hH
    subst hH
    refine SPL_y (y_assign rfl) rfl ?_
    refine SPL_nil ?_
    refine thenP_n ?_
    refine SP_ret ?_
    refine inBlockP_ret (thenP_ret (bodyP_ret (H' := [s1, sp, mp mb (onE k kb ub), blk kb 185 [.pointer (some ⟨k, 0, none⟩)], blk ub 105 [.pointer (some ⟨bf, 0 + ((fi : Nat) : Int).toNat * 4, none⟩)]]) (Res1 rfl rfl) (by repeat (first | exact Part.nil _ | (apply Part.cons; (first | exact P0 | exact P1 | exact P2 | exact P3 | exact P4 | exact P5 | exact P6 | exact P7 | exact P8 | exact P9 | exact P10 | exact P11 | exact P12 | exact P13 | exact P14 | exact P15 | exact P16 | exact P17 | exact P18 | exact P19 | exact P20 | exact P21 | exact P22 | exact P23)) | (apply Part.flat; simp only [List.cons_append, List.nil_append]) | (apply Part.nilc))) ?_))
    have e : one P.funs u C c = leave C := by unfold one; rw [if_neg (by omega), if_neg (by omega), if_pos (by omega)]
    rw [e]
    exact ⟨oa, _, rfl, rfl, hm1⟩
  intro h8_0
  refine SPL_y (y_assign rfl) rfl ?_
  refine SPL_nil ?_
  refine thenP_n ?_
  refine SP_cond_f rfl ?_
  refine SP_seq ?_
  refine SP_seq ?_
  refine SP_region ?_
  refine SPL_if (y_eql rfl rfl) rfl ?_ ?_
  · intro h10_0
    refine SPL_y (y_assign rfl) rfl ?_
    refine SPL_nil ?_
    refine thenP_n ?_
    refine SP_cond_t rfl ?_
    refine SP_skip ?_
    refine thenP_n ?_
    refine SP_cond_t rfl ?_
    refine SP_seq ?_
    refine SP_region ?_
    refine SPL_y (y_move rfl) rfl ?_
    refine SPL_y (y_loads Tryz.isAgg87 Tryz.sizeOf87 rfl rfl (by repeat (first | exact Cells.all _ | exact Cells.head rfl | apply Cells.tail))) rfl ?_
    refine SPL_one rfl (SP1_call (prep_branch k (.pointer (some ⟨pb, 0, none⟩)) (.pointer (some ⟨bf, 0 + ((fi : Nat) : Int).toNat * 4, none⟩)) (.map (some mb)) oa C s c hm hN hht hz hw (by omega) hcar) Tryz.call119 rfl rfl (by repeat (first | exact Part.nil _ | (apply Part.cons; (first | exact P0 | exact P1 | exact P2 | exact P3 | exact P4 | exact P5 | exact P6 | exact P7 | exact P8 | exact P9 | exact P10 | exact P11 | exact P12 | exact P13 | exact P14 | exact P15 | exact P16 | exact P17 | exact P18 | exact P19 | exact P20 | exact P21 | exact P22 | exact P23)) | (apply Part.flat; simp only [List.cons_append, List.nil_append]) | (apply Part.nilc))) ?_)
    rintro v post H' ⟨s1, rfl, rfl, hm1⟩ hH
    try simp only [List.cons_append, List.nil_append] at hH
    subst hH
    refine SPL_y (y_assign rfl) rfl ?_
    refine SPL_nil ?_
    refine thenP_n ?_
    refine SP_ret ?_
    refine inBlockP_ret (thenP_ret (bodyP_ret (H' := [s1, sp, mp mb (onE k kb ub), blk kb 185 [.pointer (some ⟨k, 0, none⟩)], blk ub 105 [.pointer (some ⟨bf, 0 + ((fi : Nat) : Int).toNat * 4, none⟩)]]) (Res1 rfl rfl) (by repeat (first | exact Part.nil _ | (apply Part.cons; (first | exact P0 | exact P1 | exact P2 | exact P3 | exact P4 | exact P5 | exact P6 | exact P7 | exact P8 | exact P9 | exact P10 | exact P11 | exact P12 | exact P13 | exact P14 | exact P15 | exact P16 | exact P17 | exact P18 | exact P19 | exact P20 | exact P21 | exact P22 | exact P23)) | (apply Part.flat; simp only [List.cons_append, List.nil_append]) | (apply Part.nilc))) ?_))
    have e : one P.funs u C c = branch C c := by unfold one; rw [if_neg (by omega), if_neg (by omega), if_neg (by omega), if_pos (by omega)]
    rw [e]
    exact ⟨oa, _, rfl, rfl, hm1⟩
  intro h10_0
  refine SPL_y (y_assign rfl) rfl ?_
  refine SPL_nil ?_
  refine thenP_n ?_
  refine SP_cond_f rfl ?_
  refine SP_region ?_
  refine SPL_if (y_eql rfl rfl) rfl ?_ ?_
  · intro h11_0
    refine SPL_y (y_assign rfl) rfl ?_
    refine SPL_nil ?_
    refine thenP_n ?_
    refine SP_cond_t rfl ?_
    refine SP_seq ?_
    refine SP_region ?_
    refine SPL_y (y_move rfl) rfl ?_
    refine SPL_y (y_loads Tryz.isAgg87 Tryz.sizeOf87 rfl rfl (by repeat (first | exact Cells.all _ | exact Cells.head rfl | apply Cells.tail))) rfl ?_
    refine SPL_one rfl (SP1_call (prep_branch k (.pointer (some ⟨pb, 0, none⟩)) (.pointer (some ⟨bf, 0 + ((fi : Nat) : Int).toNat * 4, none⟩)) (.map (some mb)) oa C s c hm hN hht hz hw (by omega) hcar) Tryz.call119 rfl rfl (by repeat (first | exact Part.nil _ | (apply Part.cons; (first | exact P0 | exact P1 | exact P2 | exact P3 | exact P4 | exact P5 | exact P6 | exact P7 | exact P8 | exact P9 | exact P10 | exact P11 | exact P12 | exact P13 | exact P14 | exact P15 | exact P16 | exact P17 | exact P18 | exact P19 | exact P20 | exact P21 | exact P22 | exact P23)) | (apply Part.flat; simp only [List.cons_append, List.nil_append]) | (apply Part.nilc))) ?_)
    rintro v post H' ⟨s1, rfl, rfl, hm1⟩ hH
    try simp only [List.cons_append, List.nil_append] at hH
    subst hH
    refine SPL_y (y_assign rfl) rfl ?_
    refine SPL_nil ?_
    refine thenP_n ?_
    refine SP_ret ?_
    refine inBlockP_ret (thenP_ret (bodyP_ret (H' := [s1, sp, mp mb (onE k kb ub), blk kb 185 [.pointer (some ⟨k, 0, none⟩)], blk ub 105 [.pointer (some ⟨bf, 0 + ((fi : Nat) : Int).toNat * 4, none⟩)]]) (Res1 rfl rfl) (by repeat (first | exact Part.nil _ | (apply Part.cons; (first | exact P0 | exact P1 | exact P2 | exact P3 | exact P4 | exact P5 | exact P6 | exact P7 | exact P8 | exact P9 | exact P10 | exact P11 | exact P12 | exact P13 | exact P14 | exact P15 | exact P16 | exact P17 | exact P18 | exact P19 | exact P20 | exact P21 | exact P22 | exact P23)) | (apply Part.flat; simp only [List.cons_append, List.nil_append]) | (apply Part.nilc))) ?_))
    have e : one P.funs u C c = branch C c := by unfold one; rw [if_neg (by omega), if_neg (by omega), if_neg (by omega), if_pos (by omega)]
    rw [e]
    exact ⟨oa, _, rfl, rfl, hm1⟩
  intro h11_0
  refine SPL_y (y_assign rfl) rfl ?_
  refine SPL_nil ?_
  refine thenP_n ?_
  refine SP_cond_f rfl ?_
  refine SP_seq ?_
  refine SP_region ?_
  refine SPL_if (y_eql rfl rfl) rfl ?_ ?_
  · intro h13_0
    refine SPL_y (y_assign rfl) rfl ?_
    refine SPL_nil ?_
    refine thenP_n ?_
    refine SP_cond_t rfl ?_
    refine SP_seq ?_
    refine SP_region ?_
    refine SPL_y (y_move rfl) rfl ?_
    refine SPL_y (y_loads Tryz.isAgg87 Tryz.sizeOf87 rfl rfl (by repeat (first | exact Cells.all _ | exact Cells.head rfl | apply Cells.tail))) rfl ?_
    refine SPL_one rfl (SP1_call (prep_table k (.pointer (some ⟨pb, 0, none⟩)) (.pointer (some ⟨bf, 0 + ((fi : Nat) : Int).toNat * 4, none⟩)) (.map (some mb)) oa C s c hm hN hht hz hw hcar (by omega) (by omega)) Tryz.call120 rfl rfl (by repeat (first | exact Part.nil _ | (apply Part.cons; (first | exact P0 | exact P1 | exact P2 | exact P3 | exact P4 | exact P5 | exact P6 | exact P7 | exact P8 | exact P9 | exact P10 | exact P11 | exact P12 | exact P13 | exact P14 | exact P15 | exact P16 | exact P17 | exact P18 | exact P19 | exact P20 | exact P21 | exact P22 | exact P23)) | (apply Part.flat; simp only [List.cons_append, List.nil_append]) | (apply Part.nilc))) ?_)
    rintro v post H' ⟨s1, rfl, rfl, hm1⟩ hH
    try simp only [List.cons_append, List.nil_append] at hH
    subst hH
    refine SPL_y (y_assign rfl) rfl ?_
    refine SPL_nil ?_
    refine thenP_n ?_
    refine SP_ret ?_
    refine inBlockP_ret (thenP_ret (bodyP_ret (H' := [s1, sp, mp mb (onE k kb ub), blk kb 185 [.pointer (some ⟨k, 0, none⟩)], blk ub 105 [.pointer (some ⟨bf, 0 + ((fi : Nat) : Int).toNat * 4, none⟩)]]) (Res1 rfl rfl) (by repeat (first | exact Part.nil _ | (apply Part.cons; (first | exact P0 | exact P1 | exact P2 | exact P3 | exact P4 | exact P5 | exact P6 | exact P7 | exact P8 | exact P9 | exact P10 | exact P11 | exact P12 | exact P13 | exact P14 | exact P15 | exact P16 | exact P17 | exact P18 | exact P19 | exact P20 | exact P21 | exact P22 | exact P23)) | (apply Part.flat; simp only [List.cons_append, List.nil_append]) | (apply Part.nilc))) ?_))
    have e : one P.funs u C c = table C c := by unfold one; rw [if_neg (by omega), if_neg (by omega), if_neg (by omega), if_neg (by omega), if_pos (by omega)]
    rw [e]
    exact ⟨oa, _, rfl, rfl, hm1⟩
  intro h13_0
  refine SPL_y (y_assign rfl) rfl ?_
  refine SPL_nil ?_
  refine thenP_n ?_
  refine SP_cond_f rfl ?_
  refine SP_skip ?_
  refine inBlockP_n ?_
  refine thenP_n ?_
  refine SP_seq ?_
  have hm0 := hm
  obtain ⟨ta, tc, oc, ca, cc, st, so, sb, cd, cs, rfl, hst, hop, hob, hcd⟩ := hm
  refine SP_open (pre := [_, _, _, _, _]) (by first | exact P0 | exact P1 | exact P2 | exact P3 | exact P4 | exact P5 | exact P6 | exact P7 | exact P8 | exact P9 | exact P10 | exact P11 | exact P12 | exact P13 | exact P14 | exact P15 | exact P16 | exact P17 | exact P18 | exact P19 | exact P20 | exact P21 | exact P22 | exact P23) ?_
  simp only [List.cons_append, List.nil_append]
  obtain ⟨fo, hfo⟩ : ∃ x, find (onE k kb ub) c.op = x := ⟨_, rfl⟩
  refine SP_draw 999 [(0, 0), (1, 0), (2, 0), (4, 0), (3, 1), (5, 1), (6, 1), (7, 0), (8, 0), (9, 0), (10, 0), (11, 0)] mixed (by kernel_rfl) (fun _ _ _ _ _ h => h) (Part.refl _) ?_
  refine SPO_p rfl (y_move rfl) rfl ?_
  refine SPO_p rfl (y_nil rfl) rfl ?_
  refine SPO_p rfl (y_fa fld_191_5 rfl) rfl ?_
  refine SPO_p rfl (y_fa fld_87_0 rfl) rfl ?_
  refine SPO_h rfl (y_load Tryz.isAgg189 rfl (by repeat (first | exact Cell.head rfl | apply Cell.tail))) rfl ?_
  refine SPO_h rfl (y_load Tryz.isAgg3 rfl (by repeat (first | exact Cell.head rfl | apply Cell.tail))) rfl ?_
  refine SPO_h rfl (y_lookup (l := onE k kb ub) Tryz.underlying189 Tryz.underlying3 Tryz.zeroValue187 rfl rfl (mem_of_pick (by first | exact P0 | exact P1 | exact P2 | exact P3 | exact P4 | exact P5 | exact P6 | exact P7 | exact P8 | exact P9 | exact P10 | exact P11 | exact P12 | exact P13 | exact P14 | exact P15 | exact P16 | exact P17 | exact P18 | exact P19 | exact P20 | exact P21 | exact P22 | exact P23))) rfl ?_
  rw [hfo]
  refine SPO_p rfl (y_move rfl) rfl ?_
  refine SPO_p rfl (y_ext rfl rfl) rfl ?_
  refine SPO_p rfl (y_ext rfl rfl) rfl ?_
  refine SPO_p rfl (y_assign rfl) rfl ?_
  refine SPO_p rfl (y_assign rfl) rfl ?_
  refine SPO_nil ?_
  refine thenP_n ?_
  refine SP_seq ?_
  obtain ⟨q, hq⟩ : ∃ q, fo.isSome = q := ⟨_, rfl⟩
  rw [hq]
  refine SP_region ?_
  refine SPL_y (y_fa fld_87_0 rfl) rfl ?_
  refine SPL_y (y_load Tryz.isAgg3 rfl (by repeat (first | exact Cell.head rfl | apply Cell.tail))) rfl ?_
  refine SPL_one rfl (SP1_call (prep_sigs c.op (by omega) (by omega)) Tryz.call121 rfl rfl (by repeat (first | exact Part.nil _ | (apply Part.cons; (first | exact P0 | exact P1 | exact P2 | exact P3 | exact P4 | exact P5 | exact P6 | exact P7 | exact P8 | exact P9 | exact P10 | exact P11 | exact P12 | exact P13 | exact P14 | exact P15 | exact P16 | exact P17 | exact P18 | exact P19 | exact P20 | exact P21 | exact P22 | exact P23)) | (apply Part.flat; simp only [List.cons_append, List.nil_append]) | (apply Part.nilc))) ?_)
  rintro v post H' ⟨rfl, rfl⟩ hH
  try simp only [List.cons_append, List.nil_append] at hH
  subst hH
  obtain ⟨sg, hsg⟩ : ∃ x, sigP c.op = x := ⟨_, rfl⟩
  rw [hsg]
  obtain ⟨si, so0, sgb⟩ := sg
  dsimp only
  refine SPL_y (y_move rfl) rfl ?_
  refine SPL_y (y_ext rfl rfl) rfl ?_
  refine SPL_y (y_ext rfl rfl) rfl ?_
  refine SPL_one rfl (SP1_alloc Tryz.zeroValue235 rfl rfl ?_)
  intro b7
  refine SPL_one rfl (SP1_storeAll Tryz.sizeOf235 rfl rfl rfl rfl rfl (by first | exact U0 | exact U1 | exact U2 | exact U3 | exact U4 | exact U5 | exact U6 | exact U7 | exact U8 | exact U9 | exact U10 | exact U11 | exact U12 | exact U13 | exact U14 | exact U15 | exact U16 | exact U17 | exact U18 | exact U19 | exact U20 | exact U21 | exact U22 | exact U23) (by rfl) ?_)
  refine SPL_y (y_assign rfl) rfl ?_
  refine SPL_nil ?_
  refine thenP_n ?_
  refine SP_seq ?_
  refine SP_region ?_
  refine SPL_y (y_assign rfl) rfl ?_
  refine SPL_nil ?_
  refine thenP_n ?_
  refine SP_seq ?_
  refine SP_seq ?_
  refine SP_region ?_
  refine SPL_y (y_move rfl) rfl ?_
  rcases q with _ | _
  · refine SPL_nil ?_
    refine thenP_n ?_
    refine SP_cond_f rfl ?_
    refine SP_seq ?_
    have hfn : fo = none := by cases fo with
      | none => rfl
      | some x => simp at hq
    have hsn : special P.funs u C c = none := by
      cases hs : special P.funs u C c with
      | none => rfl
      | some r => obtain ⟨_, _, _, hfd, _⟩ := prep_on k pb bf (.map (some mb)) oa C _ P steps sp fi u kb ub c mb hm0 hN hht hz hp hpz hfi (by omega) r hs; rw [hfo, hfn] at hfd; cases hfd
    have hsl := sigs_len c.op
    rw [hsg] at hsl
    dsimp only at hsl
    refine SP_region ?_
    refine SPL_y (y_move rfl) rfl ?_
    rcases sgb with _ | _
    · refine SPL_nil ?_
      refine thenP_n ?_
      refine SP_cond_f rfl ?_
      refine SP_skip ?_
      refine thenP_n ?_
      refine SP_seq ?_
      have hcl : C.code = C.code := rfl
      refine SP_draw 11 [(0, 0), (1, 0), (2, 0), (3, 0), (5, 0), (7, 0), (4, 1), (6, 1), (8, 1), (9, 0), (10, 2), (11, 3), (12, 0), (13, 0), (14, 3)] mixed (by kernel_rfl) (fun _ _ _ _ _ h => h) (Part.refl _) ?_
      refine SPO_p rfl (y_move rfl) rfl ?_
      refine SPO_p rfl (y_move rfl) rfl ?_
      refine SPO_p rfl (y_nil rfl) rfl ?_
      refine SPO_p rfl (y_fa fld_191_4 rfl) rfl ?_
      refine SPO_p rfl (y_fa fld_87_0 rfl) rfl ?_
      refine SPO_p rfl (y_fa fld_87_1 rfl) rfl ?_
      refine SPO_h rfl (y_load Tryz.isAgg106 rfl (by repeat (first | exact Cell.head rfl | apply Cell.tail))) rfl ?_
      refine SPO_h rfl (y_load Tryz.isAgg3 rfl (by repeat (first | exact Cell.head rfl | apply Cell.tail))) rfl ?_
      refine SPO_h rfl (y_load Tryz.isAgg3 rfl (by repeat (first | exact Cell.head rfl | apply Cell.tail))) rfl ?_
      refine SPO_p rfl (y_build B181 rfl rfl (by simp only [fillL, List.foldl_cons, List.foldl_nil, List.set_cons_zero, List.set_cons_succ]; exact rfl)) rfl ?_
      refine SPO_a rfl rfl (SP1_slice1 el_106 rfl rfl rfl rfl rfl ?_)
      intro b75
      refine ⟨⟨_, (by repeat (first | exact Part.nil _ | (apply Part.cons; (first | exact P0 | exact P1 | exact P2 | exact P3 | exact P4 | exact P5 | exact P6 | exact P7 | exact P8 | exact P9 | exact P10 | exact P11 | exact P12 | exact P13 | exact P14 | exact P15 | exact P16 | exact P17 | exact P18 | exact P19 | exact P20 | exact P21 | exact P22 | exact P23)) | (apply Part.flat; simp only [List.cons_append, List.nil_append]) | (apply Part.nilc)))⟩, ?_⟩
      refine SPO_z (k := 0) rfl rfl (SP1_append el_106 (.inl Tryz.underlying106) rfl rfl hcd (by first | exact P0 | exact P1 | exact P2 | exact P3 | exact P4 | exact P5 | exact P6 | exact P7 | exact P8 | exact P9 | exact P10 | exact P11 | exact P12 | exact P13 | exact P14 | exact P15 | exact P16 | exact P17 | exact P18 | exact P19 | exact P20 | exact P21 | exact P22 | exact P23) (Src.of (by repeat (first | exact Cells.all _ | exact Cells.head rfl | apply Cells.tail)) (by rfl)) (by rfl) (by rw [hcl]; omega) rfl ?_)
      intro a9 c9 s9 h9
      refine SPO_p rfl (y_nil rfl) rfl ?_
      refine SPO_p rfl (y_fa fld_191_4 rfl) rfl ?_
      refine SPO_z (k := 0) rfl rfl (SP1_store Tryz.sizeOf106 rfl rfl rfl (by first | exact U0 | exact U1 | exact U2 | exact U3 | exact U4 | exact U5 | exact U6 | exact U7 | exact U8 | exact U9 | exact U10 | exact U11 | exact U12 | exact U13 | exact U14 | exact U15 | exact U16 | exact U17 | exact U18 | exact U19 | exact U20 | exact U21 | exact U22 | exact U23) (by rfl) ?_)
      refine SPO_nil ?_
      refine thenP_n ?_
      refine SP_seq ?_
      refine SP_region ?_
      refine SPL_y (y_move rfl) rfl ?_
      refine SPL_y (y_assign rfl) rfl ?_
      refine SPL_nil ?_
      refine thenP_n ?_
      refine SP_ret ?_
      refine bodyP_ret (H' := [List.flatten [blk k 191 [.pointer (some ⟨pb, 0, none⟩), .pointer (some ⟨bf, 0 + ((fi : Nat) : Int).toNat * 4, none⟩), .slice ta C.st.length tc, .slice oa C.opn.length oc, .slice a9 (C.code.length + 1) c9, .map (some mb)], st, so, sb, s9], sp, mp mb (onE k kb ub), blk kb 185 [.pointer (some ⟨k, 0, none⟩)], blk ub 105 [.pointer (some ⟨bf, 0 + ((fi : Nat) : Int).toNat * 4, none⟩)]]) (Res1 rfl rfl) (by repeat (first | exact Part.nil _ | (apply Part.cons; (first | exact P0 | exact P1 | exact P2 | exact P3 | exact P4 | exact P5 | exact P6 | exact P7 | exact P8 | exact P9 | exact P10 | exact P11 | exact P12 | exact P13 | exact P14 | exact P15 | exact P16 | exact P17 | exact P18 | exact P19 | exact P20 | exact P21 | exact P22 | exact P23)) | (apply Part.flat; simp only [List.cons_append, List.nil_append]) | (apply Part.nilc))) ?_
      have e : one P.funs u C c = (hole C ⟨c.op, c.imm, 0, 0⟩, 3) := by unfold one; rw [if_neg (by omega), if_neg (by omega), if_neg (by omega), if_neg (by omega), if_neg (by omega)]; dsimp only; rw [hsn, sigP_f hsg]
      rw [e]
      exact ⟨oa, _, rfl, rfl, isChk.intro rfl rfl (by simp [hole]) hst hop hob (by simp only [hole]; rw [List.flatMap_append]; exact h9)⟩
    · refine SPL_nil ?_
      refine thenP_n ?_
      refine SP_cond_t rfl ?_
      refine SP_region ?_
      refine SPL_y (y_move rfl) rfl ?_
      refine SPL_y (y_fa fld_235_0 rfl) rfl ?_
      refine SPL_y (y_load Tryz.isAgg9 rfl (by repeat (first | exact Cell.head rfl | apply Cell.tail))) rfl ?_
      refine SPL_y (y_fa fld_235_1 rfl) rfl ?_
      refine SPL_y (y_load Tryz.isAgg9 rfl (by repeat (first | exact Cell.head rfl | apply Cell.tail))) rfl ?_
      refine SPL_one rfl (SP1_call (prep_swap k (.pointer (some ⟨pb, 0, none⟩)) (.pointer (some ⟨bf, 0 + ((fi : Nat) : Int).toNat * 4, none⟩)) (.map (some mb)) oa C _ si so0 hm0 hN hht hz' hsl.1 hsl.2) Tryz.call122 rfl rfl (by repeat (first | exact Part.nil _ | (apply Part.cons; (first | exact P0 | exact P1 | exact P2 | exact P3 | exact P4 | exact P5 | exact P6 | exact P7 | exact P8 | exact P9 | exact P10 | exact P11 | exact P12 | exact P13 | exact P14 | exact P15 | exact P16 | exact P17 | exact P18 | exact P19 | exact P20 | exact P21 | exact P22 | exact P23)) | (apply Part.flat; simp only [List.cons_append, List.nil_append]) | (apply Part.nilc))) ?_)
      rintro v post H' ⟨s1, rfl, rfl, hm1⟩ hH
      try simp only [List.cons_append, List.nil_append] at hH
      subst hH
      refine SPL_y (y_assign rfl) rfl ?_
      refine SPL_nil ?_
      refine thenP_n ?_
      refine SP_seq ?_
      have hcl := swap_code C si so0
      obtain ⟨rr, hrr⟩ : ∃ x, swap C si so0 = x := ⟨_, rfl⟩
      rw [hrr] at hm1 hcl ⊢
      obtain ⟨C1, e1⟩ := rr
      dsimp only at hm1 hcl ⊢
      obtain ⟨ta, tc, oc, ca, cc, st, so, sb, cd, cs, rfl, hst, hop, hob, hcd⟩ := hm1
      refine SP_open (pre := [_, _, _, _, _]) (by first | exact P0 | exact P1 | exact P2 | exact P3 | exact P4 | exact P5 | exact P6 | exact P7 | exact P8 | exact P9 | exact P10 | exact P11 | exact P12 | exact P13 | exact P14 | exact P15 | exact P16 | exact P17 | exact P18 | exact P19 | exact P20 | exact P21 | exact P22 | exact P23) ?_
      simp only [List.cons_append, List.nil_append]
      refine SP_draw 11 [(0, 0), (1, 0), (2, 0), (3, 0), (5, 0), (7, 0), (4, 1), (6, 1), (8, 1), (9, 0), (10, 2), (11, 3), (12, 0), (13, 0), (14, 3)] mixed (by kernel_rfl) (fun _ _ _ _ _ h => h) (Part.refl _) ?_
      refine SPO_p rfl (y_move rfl) rfl ?_
      refine SPO_p rfl (y_move rfl) rfl ?_
      refine SPO_p rfl (y_nil rfl) rfl ?_
      refine SPO_p rfl (y_fa fld_191_4 rfl) rfl ?_
      refine SPO_p rfl (y_fa fld_87_0 rfl) rfl ?_
      refine SPO_p rfl (y_fa fld_87_1 rfl) rfl ?_
      refine SPO_h rfl (y_load Tryz.isAgg106 rfl (by repeat (first | exact Cell.head rfl | apply Cell.tail))) rfl ?_
      refine SPO_h rfl (y_load Tryz.isAgg3 rfl (by repeat (first | exact Cell.head rfl | apply Cell.tail))) rfl ?_
      refine SPO_h rfl (y_load Tryz.isAgg3 rfl (by repeat (first | exact Cell.head rfl | apply Cell.tail))) rfl ?_
      refine SPO_p rfl (y_build B181 rfl rfl (by simp only [fillL, List.foldl_cons, List.foldl_nil, List.set_cons_zero, List.set_cons_succ]; exact rfl)) rfl ?_
      refine SPO_a rfl rfl (SP1_slice1 el_106 rfl rfl rfl rfl rfl ?_)
      intro b75
      refine ⟨⟨_, (by repeat (first | exact Part.nil _ | (apply Part.cons; (first | exact P0 | exact P1 | exact P2 | exact P3 | exact P4 | exact P5 | exact P6 | exact P7 | exact P8 | exact P9 | exact P10 | exact P11 | exact P12 | exact P13 | exact P14 | exact P15 | exact P16 | exact P17 | exact P18 | exact P19 | exact P20 | exact P21 | exact P22 | exact P23)) | (apply Part.flat; simp only [List.cons_append, List.nil_append]) | (apply Part.nilc)))⟩, ?_⟩
      refine SPO_z (k := 0) rfl rfl (SP1_append el_106 (.inl Tryz.underlying106) rfl rfl hcd (by first | exact P0 | exact P1 | exact P2 | exact P3 | exact P4 | exact P5 | exact P6 | exact P7 | exact P8 | exact P9 | exact P10 | exact P11 | exact P12 | exact P13 | exact P14 | exact P15 | exact P16 | exact P17 | exact P18 | exact P19 | exact P20 | exact P21 | exact P22 | exact P23) (Src.of (by repeat (first | exact Cells.all _ | exact Cells.head rfl | apply Cells.tail)) (by rfl)) (by rfl) (by rw [hcl]; omega) rfl ?_)
      intro a9 c9 s9 h9
      refine SPO_p rfl (y_nil rfl) rfl ?_
      refine SPO_p rfl (y_fa fld_191_4 rfl) rfl ?_
      refine SPO_z (k := 0) rfl rfl (SP1_store Tryz.sizeOf106 rfl rfl rfl (by first | exact U0 | exact U1 | exact U2 | exact U3 | exact U4 | exact U5 | exact U6 | exact U7 | exact U8 | exact U9 | exact U10 | exact U11 | exact U12 | exact U13 | exact U14 | exact U15 | exact U16 | exact U17 | exact U18 | exact U19 | exact U20 | exact U21 | exact U22 | exact U23) (by rfl) ?_)
      refine SPO_nil ?_
      refine thenP_n ?_
      refine SP_seq ?_
      refine SP_region ?_
      refine SPL_y (y_move rfl) rfl ?_
      refine SPL_y (y_assign rfl) rfl ?_
      refine SPL_nil ?_
      refine thenP_n ?_
      refine SP_ret ?_
      refine bodyP_ret (H' := [List.flatten [blk k 191 [.pointer (some ⟨pb, 0, none⟩), .pointer (some ⟨bf, 0 + ((fi : Nat) : Int).toNat * 4, none⟩), .slice ta C1.st.length tc, .slice oa C1.opn.length oc, .slice a9 (C1.code.length + 1) c9, .map (some mb)], st, so, sb, s9], sp, mp mb (onE k kb ub), blk kb 185 [.pointer (some ⟨k, 0, none⟩)], blk ub 105 [.pointer (some ⟨bf, 0 + ((fi : Nat) : Int).toNat * 4, none⟩)]]) (Res1 rfl rfl) (by repeat (first | exact Part.nil _ | (apply Part.cons; (first | exact P0 | exact P1 | exact P2 | exact P3 | exact P4 | exact P5 | exact P6 | exact P7 | exact P8 | exact P9 | exact P10 | exact P11 | exact P12 | exact P13 | exact P14 | exact P15 | exact P16 | exact P17 | exact P18 | exact P19 | exact P20 | exact P21 | exact P22 | exact P23)) | (apply Part.flat; simp only [List.cons_append, List.nil_append]) | (apply Part.nilc))) ?_
      have e : one P.funs u C c = (hole C1 ⟨c.op, c.imm, 0, 0⟩, e1) := by unfold one; rw [if_neg (by omega), if_neg (by omega), if_neg (by omega), if_neg (by omega), if_neg (by omega)]; dsimp only; rw [hsn, sigP_t hsg]; dsimp only; rw [hrr]
      rw [e]
      exact ⟨oa, _, rfl, rfl, isChk.intro rfl rfl (by simp [hole]) hst hop hob (by simp only [hole]; rw [List.flatMap_append]; exact h9)⟩
  · refine SPL_nil ?_
    refine thenP_n ?_
    refine SP_cond_t rfl ?_
    obtain ⟨hv, hfv⟩ := Option.isSome_iff_exists.1 hq
    obtain ⟨r, hr⟩ := special_some (fs := P.funs) (u := u) (C := C) (hfo.trans hfv)
    obtain ⟨f, first, cap, hfd, hcf, hsp⟩ := prep_on k pb bf (.map (some mb)) oa C _ P steps sp fi u kb ub c mb hm0 hN hht hz hp hpz hfi (by omega) r hr
    obtain rfl : fo = some (.func (.func f) first.toArray cap.toArray) := by rw [← hfo, hfd]
    refine SP_region ?_
    refine SPL_y (y_move rfl) rfl ?_
    refine SPL_y (y_loads Tryz.isAgg87 Tryz.sizeOf87 rfl rfl (by repeat (first | exact Cells.all _ | exact Cells.head rfl | apply Cells.tail))) rfl ?_
    refine SPL_one rfl (SP1_callv (first := first) (cap := cap) (args := [.agg (insV c).toArray]) rfl hsp hcf rfl rfl (by repeat (first | exact Part.nil _ | (apply Part.cons; (first | exact P0 | exact P1 | exact P2 | exact P3 | exact P4 | exact P5 | exact P6 | exact P7 | exact P8 | exact P9 | exact P10 | exact P11 | exact P12 | exact P13 | exact P14 | exact P15 | exact P16 | exact P17 | exact P18 | exact P19 | exact P20 | exact P21 | exact P22 | exact P23)) | (apply Part.flat; simp only [List.cons_append, List.nil_append]) | (apply Part.nilc))) ?_)
    rintro v post H' ⟨s1, rfl, rfl, hm1⟩ hH
    simp only [isOn, List.cons_append, List.nil_append] at hH
    subst hH
    refine SPL_y (y_assign rfl) rfl ?_
    refine SPL_nil ?_
    refine thenP_n ?_
    refine SP_seq ?_
    have hcl := special_code hr
    obtain ⟨C1, e1⟩ := r
    dsimp only at hm1 hcl ⊢
    obtain ⟨ta, tc, oc, ca, cc, st, so, sb, cd, cs, rfl, hst, hop, hob, hcd⟩ := hm1
    refine SP_open (pre := [_, _, _, _, _]) (by first | exact P0 | exact P1 | exact P2 | exact P3 | exact P4 | exact P5 | exact P6 | exact P7 | exact P8 | exact P9 | exact P10 | exact P11 | exact P12 | exact P13 | exact P14 | exact P15 | exact P16 | exact P17 | exact P18 | exact P19 | exact P20 | exact P21 | exact P22 | exact P23) ?_
    simp only [List.cons_append, List.nil_append]
    refine SP_draw 11 [(0, 0), (1, 0), (2, 0), (3, 0), (5, 0), (7, 0), (4, 1), (6, 1), (8, 1), (9, 0), (10, 2), (11, 3), (12, 0), (13, 0), (14, 3)] mixed (by kernel_rfl) (fun _ _ _ _ _ h => h) (Part.refl _) ?_
    refine SPO_p rfl (y_move rfl) rfl ?_
    refine SPO_p rfl (y_move rfl) rfl ?_
    refine SPO_p rfl (y_nil rfl) rfl ?_
    refine SPO_p rfl (y_fa fld_191_4 rfl) rfl ?_
    refine SPO_p rfl (y_fa fld_87_0 rfl) rfl ?_
    refine SPO_p rfl (y_fa fld_87_1 rfl) rfl ?_
    refine SPO_h rfl (y_load Tryz.isAgg106 rfl (by repeat (first | exact Cell.head rfl | apply Cell.tail))) rfl ?_
    refine SPO_h rfl (y_load Tryz.isAgg3 rfl (by repeat (first | exact Cell.head rfl | apply Cell.tail))) rfl ?_
    refine SPO_h rfl (y_load Tryz.isAgg3 rfl (by repeat (first | exact Cell.head rfl | apply Cell.tail))) rfl ?_
    refine SPO_p rfl (y_build B181 rfl rfl (by simp only [fillL, List.foldl_cons, List.foldl_nil, List.set_cons_zero, List.set_cons_succ]; exact rfl)) rfl ?_
    refine SPO_a rfl rfl (SP1_slice1 el_106 rfl rfl rfl rfl rfl ?_)
    intro b75
    refine ⟨⟨_, (by repeat (first | exact Part.nil _ | (apply Part.cons; (first | exact P0 | exact P1 | exact P2 | exact P3 | exact P4 | exact P5 | exact P6 | exact P7 | exact P8 | exact P9 | exact P10 | exact P11 | exact P12 | exact P13 | exact P14 | exact P15 | exact P16 | exact P17 | exact P18 | exact P19 | exact P20 | exact P21 | exact P22 | exact P23)) | (apply Part.flat; simp only [List.cons_append, List.nil_append]) | (apply Part.nilc)))⟩, ?_⟩
    refine SPO_z (k := 0) rfl rfl (SP1_append el_106 (.inl Tryz.underlying106) rfl rfl hcd (by first | exact P0 | exact P1 | exact P2 | exact P3 | exact P4 | exact P5 | exact P6 | exact P7 | exact P8 | exact P9 | exact P10 | exact P11 | exact P12 | exact P13 | exact P14 | exact P15 | exact P16 | exact P17 | exact P18 | exact P19 | exact P20 | exact P21 | exact P22 | exact P23) (Src.of (by repeat (first | exact Cells.all _ | exact Cells.head rfl | apply Cells.tail)) (by rfl)) (by rfl) (by rw [hcl]; omega) rfl ?_)
    intro a9 c9 s9 h9
    refine SPO_p rfl (y_nil rfl) rfl ?_
    refine SPO_p rfl (y_fa fld_191_4 rfl) rfl ?_
    refine SPO_z (k := 0) rfl rfl (SP1_store Tryz.sizeOf106 rfl rfl rfl (by first | exact U0 | exact U1 | exact U2 | exact U3 | exact U4 | exact U5 | exact U6 | exact U7 | exact U8 | exact U9 | exact U10 | exact U11 | exact U12 | exact U13 | exact U14 | exact U15 | exact U16 | exact U17 | exact U18 | exact U19 | exact U20 | exact U21 | exact U22 | exact U23) (by rfl) ?_)
    refine SPO_nil ?_
    refine thenP_n ?_
    refine SP_seq ?_
    refine SP_region ?_
    refine SPL_y (y_move rfl) rfl ?_
    refine SPL_y (y_assign rfl) rfl ?_
    refine SPL_nil ?_
    refine thenP_n ?_
    refine SP_ret ?_
    refine bodyP_ret (H' := [List.flatten [blk k 191 [.pointer (some ⟨pb, 0, none⟩), .pointer (some ⟨bf, 0 + ((fi : Nat) : Int).toNat * 4, none⟩), .slice ta C1.st.length tc, .slice oa C1.opn.length oc, .slice a9 (C1.code.length + 1) c9, .map (some mb)], st, so, sb, s9], sp, mp mb (onE k kb ub), blk kb 185 [.pointer (some ⟨k, 0, none⟩)], blk ub 105 [.pointer (some ⟨bf, 0 + ((fi : Nat) : Int).toNat * 4, none⟩)]]) (Res1 rfl rfl) (by repeat (first | exact Part.nil _ | (apply Part.cons; (first | exact P0 | exact P1 | exact P2 | exact P3 | exact P4 | exact P5 | exact P6 | exact P7 | exact P8 | exact P9 | exact P10 | exact P11 | exact P12 | exact P13 | exact P14 | exact P15 | exact P16 | exact P17 | exact P18 | exact P19 | exact P20 | exact P21 | exact P22 | exact P23)) | (apply Part.flat; simp only [List.cons_append, List.nil_append]) | (apply Part.nilc))) ?_
    have e : one P.funs u C c = (hole C1 ⟨c.op, c.imm, 0, 0⟩, e1) := by unfold one; rw [if_neg (by omega), if_neg (by omega), if_neg (by omega), if_neg (by omega), if_neg (by omega)]; dsimp only; rw [hr]
    rw [e]
    exact ⟨oa, _, rfl, rfl, isChk.intro rfl rfl (by simp [hole]) hst hop hob (by simp only [hole]; rw [List.flatMap_append]; exact h9)⟩

end Go.Sl
