/- Walks: package prepm, New (made by program out of short notes) -/
import Derived.Test.Qxb6500572aGreatDoorWPmH
import Derived.Test.Qxb6500572aGreatDoorWPrepL
namespace Go.Sl
open Go Go.Wl Go.Proofs
set_option maxRecDepth 100000
set_option linter.unusedVariables false
set_option linter.unusedSimpArgs false
theorem nest_all_well : ∀ {l : List Ins} {o : List Int}, nest l o = 0 → ∀ c, c ∈ l → well c = true
  | [], _, _, c, hc => by simp at hc
  | x :: l, o, h, c, hc => by
    have hx := nest_well h
    rcases List.mem_cons.1 hc with e | e
    · rw [e]; exact hx
    · unfold nest at h
      rw [if_pos hx] at h
      split at h
      · split at h
        · cases h
        · exact nest_all_well h c e
      · split at h
        · split at h
          · exact nest_all_well h c e
          · cases h
        · split at h
          · split at h
            · split at h
              · rename_i hl; subst hl; simp at e
              · cases h
            · exact nest_all_well h c e
          · exact nest_all_well h c e

/-- All but the code. -/
def SameM (m : Mod) (fs : List Fm) : Prop := ∀ (g : Nat) (x : Fm), fs[g]? = some x → { x with code := [] } = funAtM m g
theorem SameM.set {m : Mod} {fs : List Fm} (h : SameM m fs) {f : Nat} {u : Fm} (hu : fs[f]? = some u) (code : List Flat) : SameM m (fs.set f { u with code := code }) := by
  intro g x hx
  by_cases e : f = g
  · subst e
    rw [List.getElem?_set_self (List.getElem?_eq_some_iff.1 hu).1] at hx
    simp only [Option.some.injEq] at hx
    subst hx
    exact h f u hu
  · rw [List.getElem?_set_ne e] at hx; exact h g x hx
theorem same_snoc {m : Mod} {acc : List Fm} {u : Fm} {f : Nat} (hal : acc.length = f) (hac : ∀ (i : Nat) (x : Fm), acc[i]? = some x → x = funAtM m i) (hu : u = funAtM m f) : ∀ (i : Nat) (x : Fm), (acc ++ [u])[i]? = some x → x = funAtM m i := by
  intro i x hx
  by_cases e : i < acc.length
  · rw [List.getElem?_append_left e] at hx; exact hac i x hx
  · have hi := (List.getElem?_eq_some_iff.1 hx).1
    rw [List.length_append, List.length_singleton] at hi
    have e2 : i = acc.length := by omega
    subst e2
    rw [List.getElem?_append_right (Nat.le_refl _), Nat.sub_self] at hx
    simp only [List.getElem?_cons_zero, Option.some.injEq] at hx
    rw [← hx, hu, hal]
theorem codeV_app (a b : List Ins) : codeV (a ++ b) = codeV a ++ codeV b := List.flatMap_append
theorem funAtM_len {m : Mod} (ok : ModOk m) (f : Nat) : (funAtM m f).params.length ≤ 3 ∧ (funAtM m f).results.length ≤ 1 ∧ (funAtM m f).locals.length ≤ 4 ∧ (funAtM m f).src.length ≤ 24 ∧ ∀ c, c ∈ (funAtM m f).src → c.tab.length ≤ 5 := by
  have ht : ∀ t, (m.type t).1.length ≤ 3 ∧ (m.type t).2.length ≤ 1 := fun t => by
    unfold Mod.type; split
    · simp
    · rename_i h
      have h1 : t.toNat < m.params.length := by omega
      have h2 : t.toNat < m.results.length := by rw [ok.rl]; exact h1
      dsimp only
      rw [List.getD_eq_getElem?_getD, List.getD_eq_getElem?_getD, List.getElem?_eq_getElem h1, List.getElem?_eq_getElem h2]
      exact ⟨(ok.ps _ (List.getElem_mem _)).1, (ok.rs _ (List.getElem_mem _)).1⟩
  refine ⟨(ht _).1, (ht _).2, ?_, ?_, ?_⟩
  · show (if f < m.imports.length then [] else (m.func ((f : Int) - m.imports.length)).2.1).length ≤ 4
    split
    · simp
    · unfold Mod.func; split
      · simp
      · split
        · rename_i fn hfn; exact (ok.fn _ (List.mem_of_getElem? hfn)).2.2.1
        · simp
  · show (if f < m.imports.length then [] else codeOf m f).length ≤ 24
    split
    · simp
    · unfold codeOf; split
      · rename_i fn hfn; exact (ok.fn _ (List.mem_of_getElem? hfn)).2.2.2.2.1
      · simp
  · intro c hc
    have hc : c ∈ (if f < m.imports.length then [] else codeOf m f) := hc
    split at hc
    · simp at hc
    · unfold codeOf at hc; split at hc
      · rename_i fn hfn
        have hn := (ok.fn _ (List.mem_of_getElem? hfn)).2.2.2.2.2
        exact (well_parts (nest_all_well hn c hc)).2
      · simp at hc
theorem start1 {k b : Nat} {u : Fm} {bt : Int} (h : bt = if u.results = [] then 0 else ((u.results.getD 0 0).toNat : Int)) : isKm k (Km.start u) (List.flatten [blk k 174 [.slice none 0 0, .slice (some ⟨b, 0, none⟩) 1 1], [], blk b 171 [I 1, I bt, I 0, I (-1), .bool false]]) := by
  subst h
  exact isKm.intro (k := k) (n1 := 0) (n2 := 1) rfl rfl (Arr.nil _ _) (Arr.full (m := 1) rfl)
theorem sigs_at {m : Mod} (ok : ModOk m) {fs : List Fm} (hS : SameM m fs) {cs : List Value} {s : Seg} {f : Nat} {u : Fm} (hu : fs[f]? = some u) {code : List Flat} (h : FunsM (fs.set f { u with code := code }) cs s) : ∀ (g : Nat) (x : Fm), fs[g]? = some x → cs[g * 5]? = some (S x.params) ∧ cs[g * 5 + 1]? = some (S x.results) ∧ x.params.length ≤ 100 ∧ x.results.length ≤ 100 := by
  intro g x hx
  have hl := funAtM_len ok g
  rw [← hS g x hx] at hl
  have hl1 : x.params.length ≤ 3 := hl.1
  have hl2 : x.results.length ≤ 1 := hl.2.1
  by_cases e : f = g
  · subst e
    have := h.sig (g := f) (f := { u with code := code }) (List.getElem?_set_self (List.getElem?_eq_some_iff.1 hu).1)
    rw [hu] at hx; simp only [Option.some.injEq] at hx; subst hx
    exact ⟨this.1, this.2.1, by omega, by omega⟩
  · have := h.sig (g := g) (f := x) (by rw [List.getElem?_set_ne e]; exact hx)
    exact ⟨this.1, this.2.1, by omega, by omega⟩

set_option maxHeartbeats 8000000 in
theorem pm_New (b : Nat) (m : Mod) (s : Seg) (hm : isMod b m s) (ok : ModOk m) (hrun : ∀ (fs : List Fm) (f : Nat) (u : Fm), SameM m fs → fs[f]? = some u → m.imports.length ≤ f → f < (m.imports.length + m.funcs.length) → u.code = [] → (readsM m (m.imports.length + m.funcs.length) [] 0).2 = none → fs.length = (m.imports.length + m.funcs.length) → RunOk fs u u.src (Km.start u) [] 0) : Spec Tryz.prog 43 [.pointer (some ⟨b, 0, none⟩)] [s] (Ret fun v H => ((loadMM m).2.2.2 = 0 ∧ ∃ pb fa sp, v = .tuple #[.pointer (some ⟨pb, 0, none⟩), I 0, I 0, I 0] ∧ H = [sp, s] ∧ isPm pb fa (loadMM m).1 0 sp) ∨ ((loadMM m).2.2.2 ≠ 0 ∧ v = .tuple #[.pointer none, I (loadMM m).2.2.2, I (loadMM m).2.1, I (loadMM m).2.2.1] ∧ H = [s])) := by
  have hok := ok
  obtain ⟨hnt, hrl, hni, hnf, hps, hrs, him, hmem, hfn⟩ := hok
  refine Spec_enter Tryz.func43 rfl Tryz.ntmps43 rfl ?_
  show SP _ _ _ _ _ [(0, _)] _
  refine SP_seq ?_
  refine SP_region ?_
  refine SPL_y (y_assign rfl) rfl ?_
  refine SPL_y (y_assign rfl) rfl ?_
  refine SPL_y (y_assign rfl) rfl ?_
  refine SPL_y (y_assign rfl) rfl ?_
  refine SPL_nil ?_
  refine thenP_n ?_
  refine SP_seq ?_
  refine SP_seq ?_
  refine SP_region ?_
  refine SPL_y (y_move rfl) rfl ?_
  refine SPL_if (y_peq_nil Tryz.underlying32 rfl rfl) rfl ?_ ?_
  · intro h1_1
    cases h1_1
  intro h1_1
  refine SPL_nil ?_
  refine thenP_n ?_
  refine SP_cond_f rfl ?_
  refine SP_skip ?_
  refine thenP_n ?_
  refine SP_seq ?_
  refine SP_region ?_
  refine SPL_y (y_move rfl) rfl ?_
  refine SPL_one rfl (SP1_call (modm_NImports b m s hm) Tryz.call65 rfl rfl (by repeat (first | exact Part.nil _ | (apply Part.cons; (first | exact P0 | exact P1 | exact P2 | exact P3 | exact P4 | exact P5 | exact P6 | exact P7 | exact P8 | exact P9 | exact P10 | exact P11 | exact P12 | exact P13 | exact P14 | exact P15 | exact P16 | exact P17 | exact P18 | exact P19 | exact P20 | exact P21 | exact P22 | exact P23)) | (apply Part.flat; simp only [List.cons_append, List.nil_append]) | (apply Part.nilc))) ?_)
  rintro v post H' ⟨rfl, rfl⟩ hH
  try simp only [List.cons_append, List.nil_append] at hH
  subst hH
  refine SPL_y (y_build B159 rfl rfl (by simp only [fillL, List.foldl_cons, List.foldl_nil, List.set_cons_zero, List.set_cons_succ]; exact rfl)) rfl ?_
  refine SPL_one rfl (SP1_box rfl rfl rfl ?_)
  intro pb
  refine SPL_y (y_assign rfl) rfl ?_
  refine SPL_nil ?_
  refine thenP_n ?_
  refine SP_seq ?_
  refine SP_region ?_
  refine SPL_y (y_move rfl) rfl ?_
  refine SPL_y (y_move rfl) rfl ?_
  refine SPL_y (y_move rfl) rfl ?_
  refine SPL_one rfl (SP1_call (modm_Mem b m s hm) Tryz.call66 rfl rfl (by repeat (first | exact Part.nil _ | (apply Part.cons; (first | exact P0 | exact P1 | exact P2 | exact P3 | exact P4 | exact P5 | exact P6 | exact P7 | exact P8 | exact P9 | exact P10 | exact P11 | exact P12 | exact P13 | exact P14 | exact P15 | exact P16 | exact P17 | exact P18 | exact P19 | exact P20 | exact P21 | exact P22 | exact P23)) | (apply Part.flat; simp only [List.cons_append, List.nil_append]) | (apply Part.nilc))) ?_)
  rintro v post H' ⟨rfl, rfl⟩ hH
  try simp only [List.cons_append, List.nil_append] at hH
  subst hH
  refine SPL_y (y_move rfl) rfl ?_
  refine SPL_y (y_ext rfl rfl) rfl ?_
  refine SPL_y (y_ext rfl rfl) rfl ?_
  refine SPL_y (y_nil rfl) rfl ?_
  refine SPL_y (y_fa fld_159_1 rfl) rfl ?_
  refine SPL_one rfl (SP1_store Tryz.sizeOf3 rfl rfl rfl (by first | exact U0 | exact U1 | exact U2 | exact U3 | exact U4 | exact U5 | exact U6 | exact U7 | exact U8 | exact U9 | exact U10 | exact U11 | exact U12 | exact U13 | exact U14 | exact U15 | exact U16 | exact U17 | exact U18 | exact U19 | exact U20 | exact U21 | exact U22 | exact U23) (by rfl) ?_)
  refine SPL_y (y_nil rfl) rfl ?_
  refine SPL_y (y_fa fld_159_2 rfl) rfl ?_
  refine SPL_one rfl (SP1_store Tryz.sizeOf3 rfl rfl rfl (by first | exact U0 | exact U1 | exact U2 | exact U3 | exact U4 | exact U5 | exact U6 | exact U7 | exact U8 | exact U9 | exact U10 | exact U11 | exact U12 | exact U13 | exact U14 | exact U15 | exact U16 | exact U17 | exact U18 | exact U19 | exact U20 | exact U21 | exact U22 | exact U23) (by rfl) ?_)
  refine SPL_nil ?_
  refine thenP_n ?_
  refine SP_seq ?_
  refine SP_region ?_
  refine SPL_y (y_move rfl) rfl ?_
  refine SPL_one rfl (SP1_call (modm_NTypes b m s hm) Tryz.call67 rfl rfl (by repeat (first | exact Part.nil _ | (apply Part.cons; (first | exact P0 | exact P1 | exact P2 | exact P3 | exact P4 | exact P5 | exact P6 | exact P7 | exact P8 | exact P9 | exact P10 | exact P11 | exact P12 | exact P13 | exact P14 | exact P15 | exact P16 | exact P17 | exact P18 | exact P19 | exact P20 | exact P21 | exact P22 | exact P23)) | (apply Part.flat; simp only [List.cons_append, List.nil_append]) | (apply Part.nilc))) ?_)
  rintro v post H' ⟨rfl, rfl⟩ hH
  try simp only [List.cons_append, List.nil_append] at hH
  subst hH
  refine SPL_y (y_assign rfl) rfl ?_
  refine SPL_nil ?_
  refine thenP_n ?_
  refine SP_seq ?_
  refine SP_region ?_
  refine SPL_y (y_move rfl) rfl ?_
  refine SPL_one rfl (SP1_call (modm_NFuncs b m s hm) Tryz.call68 rfl rfl (by repeat (first | exact Part.nil _ | (apply Part.cons; (first | exact P0 | exact P1 | exact P2 | exact P3 | exact P4 | exact P5 | exact P6 | exact P7 | exact P8 | exact P9 | exact P10 | exact P11 | exact P12 | exact P13 | exact P14 | exact P15 | exact P16 | exact P17 | exact P18 | exact P19 | exact P20 | exact P21 | exact P22 | exact P23)) | (apply Part.flat; simp only [List.cons_append, List.nil_append]) | (apply Part.nilc))) ?_)
  rintro v post H' ⟨rfl, rfl⟩ hH
  try simp only [List.cons_append, List.nil_append] at hH
  subst hH
  refine SPL_y (y_assign rfl) rfl ?_
  refine SPL_nil ?_
  refine thenP_n ?_
  refine SP_seq ?_
  refine SP_seq ?_
  refine SP_region ?_
  refine SPL_y (y_assign rfl) rfl ?_
  refine SPL_nil ?_
  refine thenP_n ?_
  refine SP_block ?_
  refine SP_loop (G := Nat × List Fm × Option Addr × Nat × Seg × Seg × List Value) (fun g => (m.imports.length + m.funcs.length) - g.1) (fun g => [(0, .pointer (some ⟨b, 0, none⟩)), (6, .pointer (some ⟨pb, 0, none⟩)), (7, I m.params.length), (8, I m.funcs.length), (9, I g.1)]) (fun g => [blk pb 159 [I m.imports.length, I m.min, I m.max, I 0, .slice g.2.2.1 g.1 g.2.2.2.1], g.2.2.2.2.1, g.2.2.2.2.2.1, s]) (fun g => (g.1 ≤ (m.imports.length + m.funcs.length) ∧ g.2.1.length = g.1 ∧ readsM m (m.imports.length + m.funcs.length) [] 0 = readsM m ((m.imports.length + m.funcs.length) - g.1) g.2.1 g.1) ∧ Arr 164 5 g.2.2.1 g.1 g.2.2.2.1 g.2.2.2.2.2.2 g.2.2.2.2.1 ∧ FunsM g.2.1 g.2.2.2.2.2.2 g.2.2.2.2.2.1 ∧ ∀ (i : Nat) (x : Fm), g.2.1[i]? = some x → x = funAtM m i) ((0, [], none, 0, [], [], [])) (⟨⟨Nat.zero_le _, rfl, rfl⟩, Arr.nil _ _, ⟨rfl, rfl⟩, fun j x hx => by simp at hx⟩) (by repeat (first | exact Sub.nil _ | refine Sub.cons rfl ?_)) (by repeat (first | exact Part.nil _ | (apply Part.cons; (first | exact P0 | exact P1 | exact P2 | exact P3 | exact P4 | exact P5 | exact P6 | exact P7 | exact P8 | exact P9 | exact P10 | exact P11 | exact P12 | exact P13 | exact P14 | exact P15 | exact P16 | exact P17 | exact P18 | exact P19 | exact P20 | exact P21 | exact P22 | exact P23)) | (apply Part.flat; simp only [List.cons_append, List.nil_append]) | (apply Part.nilc))) ?_
  rintro ⟨f, acc, fa, fc, sf, sc, cs⟩ ⟨⟨hf, hal, hrd⟩, hfr, hfs, hac⟩
  dsimp only at hf hal hrd hfr hfs hac ⊢
  refine SP_seq ?_
  refine SP_seq ?_
  refine SP_region ?_
  refine SPL_y (y_move rfl) rfl ?_
  refine SPL_y (y_move rfl) rfl ?_
  refine SPL_y (y_nil rfl) rfl ?_
  refine SPL_y (y_fa fld_159_0 rfl) rfl ?_
  refine SPL_y (y_load Tryz.isAgg3 rfl (by repeat (first | exact Cell.head rfl | apply Cell.tail))) rfl ?_
  refine SPL_y (y_move rfl) rfl ?_
  refine SPL_y (y_add rfl rfl (by omega)) rfl ?_
  refine SPL_if (y_lss rfl rfl) rfl ?_ ?_
  · intro h8_7
    refine SPL_nil ?_
    refine thenP_n ?_
    refine SP_cond_t rfl ?_
    refine SP_skip ?_
    refine thenP_n ?_
    refine SP_seq ?_
    refine SP_block ?_
    refine SP_seq ?_
    refine SP_region ?_
    refine SPL_y (y_move rfl) rfl ?_
    refine SPL_y (y_move rfl) rfl ?_
    refine SPL_one rfl (SP1_call (modm_Import b m s f hm) Tryz.call69 rfl rfl (by repeat (first | exact Part.nil _ | (apply Part.cons; (first | exact P0 | exact P1 | exact P2 | exact P3 | exact P4 | exact P5 | exact P6 | exact P7 | exact P8 | exact P9 | exact P10 | exact P11 | exact P12 | exact P13 | exact P14 | exact P15 | exact P16 | exact P17 | exact P18 | exact P19 | exact P20 | exact P21 | exact P22 | exact P23)) | (apply Part.flat; simp only [List.cons_append, List.nil_append]) | (apply Part.nilc))) ?_)
    rintro v post H' ⟨rfl, rfl⟩ hH
    try simp only [List.cons_append, List.nil_append] at hH
    subst hH
    refine SPL_y (y_assign rfl) rfl ?_
    refine SPL_y (y_assign rfl) rfl ?_
    refine SPL_y (y_assign rfl) rfl ?_
    refine SPL_nil ?_
    refine thenP_n ?_
    refine SP_seq ?_
    refine SP_seq ?_
    refine SP_region ?_
    refine SPL_y (y_move rfl) rfl ?_
    refine SPL_y (y_move rfl) rfl ?_
    refine SPL_y (y_nil rfl) rfl ?_
    refine SPL_y (y_fa fld_159_0 rfl) rfl ?_
    refine SPL_y (y_load Tryz.isAgg3 rfl (by repeat (first | exact Cell.head rfl | apply Cell.tail))) rfl ?_
    refine SPL_ifn (y_geq rfl rfl) rfl ?_ ?_
    · intro h11_5
      refine SPL_nil ?_
      refine thenP_n ?_
      refine SP_cond_f rfl ?_
      refine SP_skip ?_
      refine thenP_n ?_
      refine SP_seq ?_
      refine SP_seq ?_
      have hty : tyAt m f = m.imq f := by unfold tyAt; rw [if_pos (by omega)]
      have hfa : funAtM m f = ⟨(m.type (m.imq f)).1, (m.type (m.imq f)).2, [], [], []⟩ := by unfold funAtM; rw [hty, if_pos (by omega), if_pos (by omega)]
      refine SP_region ?_
      refine SPL_y (y_move rfl) rfl ?_
      refine SPL_y (y_move rfl) rfl ?_
      refine SPL_if (y_geq rfl rfl) rfl ?_ ?_
      · intro h13_2
        refine SPL_nil ?_
        refine thenP_n ?_
        refine SP_cond_t rfl ?_
        refine SP_seq ?_
        refine SP_region ?_
        refine SPL_y (y_move rfl) rfl ?_
        refine SPL_y (y_assign rfl) rfl ?_
        refine SPL_y (y_assign rfl) rfl ?_
        refine SPL_y (y_assign rfl) rfl ?_
        refine SPL_y (y_assign rfl) rfl ?_
        refine SPL_nil ?_
        refine thenP_n ?_
        refine SP_ret ?_
        refine thenP_ret (inBlockP_ret (thenP_ret (thenP_ret (inBlockP_ret (thenP_ret (bodyP_ret (H' := [s]) (Res4 rfl rfl rfl rfl rfl) (by repeat (first | exact Part.nil _ | (apply Part.cons; (first | exact P0 | exact P1 | exact P2 | exact P3 | exact P4 | exact P5 | exact P6 | exact P7 | exact P8 | exact P9 | exact P10 | exact P11 | exact P12 | exact P13 | exact P14 | exact P15 | exact P16 | exact P17 | exact P18 | exact P19 | exact P20 | exact P21 | exact P22 | exact P23)) | (apply Part.flat; simp only [List.cons_append, List.nil_append]) | (apply Part.nilc))) ?_))))))
        have e : loadMM m = (⟨m.imports.length, m.min, m.max, acc⟩, (f : Int), -1, 5) := by unfold loadMM; dsimp only; rw [hrd, show (m.imports.length + m.funcs.length) - f = ((m.imports.length + m.funcs.length) - (f + 1)) + 1 by omega, readsM, if_pos (by rw [hty]; omega)]
        rw [e]
        exact .inr ⟨(show (5 : Int) ≠ 0 by decide), rfl, rfl⟩
      intro h13_2
      refine SPL_nil ?_
      refine thenP_n ?_
      refine SP_cond_f rfl ?_
      refine SP_skip ?_
      refine thenP_n ?_
      refine SP_seq ?_
      refine SP_region ?_
      refine SPL_y (y_move rfl) rfl ?_
      refine SPL_y (y_build B164 rfl rfl (by simp only [fillL, List.foldl_cons, List.foldl_nil, List.set_cons_zero, List.set_cons_succ]; exact rfl)) rfl ?_
      refine SPL_one rfl (SP1_alloc Tryz.zeroValue164 rfl rfl ?_)
      intro b13
      refine SPL_one rfl (SP1_storeAll Tryz.sizeOf164 rfl rfl rfl rfl rfl (by first | exact U0 | exact U1 | exact U2 | exact U3 | exact U4 | exact U5 | exact U6 | exact U7 | exact U8 | exact U9 | exact U10 | exact U11 | exact U12 | exact U13 | exact U14 | exact U15 | exact U16 | exact U17 | exact U18 | exact U19 | exact U20 | exact U21 | exact U22 | exact U23) (by rfl) ?_)
      refine SPL_nil ?_
      refine thenP_n ?_
      refine SP_seq ?_
      refine SP_region ?_
      refine SPL_y (y_move rfl) rfl ?_
      refine SPL_y (y_move rfl) rfl ?_
      refine SPL_one rfl (SP1_call (modm_Type b m s _ hm hrl) Tryz.call71 rfl rfl (by repeat (first | exact Part.nil _ | (apply Part.cons; (first | exact P0 | exact P1 | exact P2 | exact P3 | exact P4 | exact P5 | exact P6 | exact P7 | exact P8 | exact P9 | exact P10 | exact P11 | exact P12 | exact P13 | exact P14 | exact P15 | exact P16 | exact P17 | exact P18 | exact P19 | exact P20 | exact P21 | exact P22 | exact P23)) | (apply Part.flat; simp only [List.cons_append, List.nil_append]) | (apply Part.nilc))) ?_)
      rintro v post H' ⟨rfl, rfl⟩ hH
      try simp only [List.cons_append, List.nil_append] at hH
      subst hH
      refine SPL_y (y_move rfl) rfl ?_
      refine SPL_y (y_ext rfl rfl) rfl ?_
      refine SPL_y (y_ext rfl rfl) rfl ?_
      refine SPL_y (y_fa fld_164_0 rfl) rfl ?_
      refine SPL_one rfl (SP1_store Tryz.sizeOf9 rfl rfl rfl (by first | exact U0 | exact U1 | exact U2 | exact U3 | exact U4 | exact U5 | exact U6 | exact U7 | exact U8 | exact U9 | exact U10 | exact U11 | exact U12 | exact U13 | exact U14 | exact U15 | exact U16 | exact U17 | exact U18 | exact U19 | exact U20 | exact U21 | exact U22 | exact U23) (by rfl) ?_)
      refine SPL_y (y_fa fld_164_1 rfl) rfl ?_
      refine SPL_one rfl (SP1_store Tryz.sizeOf9 rfl rfl rfl (by first | exact U0 | exact U1 | exact U2 | exact U3 | exact U4 | exact U5 | exact U6 | exact U7 | exact U8 | exact U9 | exact U10 | exact U11 | exact U12 | exact U13 | exact U14 | exact U15 | exact U16 | exact U17 | exact U18 | exact U19 | exact U20 | exact U21 | exact U22 | exact U23) (by rfl) ?_)
      refine SPL_nil ?_
      refine thenP_n ?_
      refine SP_seq ?_
      refine SP_seq ?_
      refine SP_region ?_
      refine SPL_y (y_assign rfl) rfl ?_
      refine SPL_nil ?_
      refine thenP_n ?_
      refine SP_block ?_
      refine SP_loop (G := Nat × Option Addr × Nat × Seg) (fun g => ([] : List Ins).length - g.1) (fun g => [(0, .pointer (some ⟨b, 0, none⟩)), (6, .pointer (some ⟨pb, 0, none⟩)), (7, I m.params.length), (8, I m.funcs.length), (9, I f), (12, I ([] : List Ins).length), (13, .pointer (some ⟨b13, 0, none⟩)), (14, I g.1)]) (fun g => [blk pb 159 [I m.imports.length, I m.min, I m.max, I 0, .slice fa f fc], sf, sc, s, blk b13 164 [S (m.type (m.imq f)).1, S (m.type (m.imq f)).2, S [], .slice g.2.1 g.1 g.2.2.1, .slice none 0 0], g.2.2.2]) (fun g => g.1 ≤ ([] : List Ins).length ∧ Arr 87 3 g.2.1 g.1 g.2.2.1 (codeV (([] : List Ins).take g.1)) g.2.2.2) ((0, none, 0, [])) (⟨Nat.zero_le _, Arr.nil _ _⟩) (by repeat (first | exact Sub.nil _ | refine Sub.cons rfl ?_)) (by repeat (first | exact Part.nil _ | (apply Part.cons; (first | exact P0 | exact P1 | exact P2 | exact P3 | exact P4 | exact P5 | exact P6 | exact P7 | exact P8 | exact P9 | exact P10 | exact P11 | exact P12 | exact P13 | exact P14 | exact P15 | exact P16 | exact P17 | exact P18 | exact P19 | exact P20 | exact P21 | exact P22 | exact P23)) | (apply Part.flat; simp only [List.cons_append, List.nil_append]) | (apply Part.nilc))) ?_
      rintro ⟨i, sa, sc2, sv⟩ ⟨hi, hsv⟩
      dsimp only at hi hsv ⊢
      refine SP_seq ?_
      refine SP_seq ?_
      refine SP_region ?_
      refine SPL_y (y_move rfl) rfl ?_
      refine SPL_y (y_move rfl) rfl ?_
      refine SPL_if (y_lss rfl rfl) rfl ?_ ?_
      · intro h18_2
        simp at h18_2; omega
      intro h18_2
      refine SPL_nil ?_
      refine thenP_n ?_
      refine SP_cond_f rfl ?_
      refine SP_exit ?_
      refine thenP_exit ?_
      refine thenP_exit ?_
      refine inBlockP_hit ?_
      refine thenP_n ?_
      refine SP_draw 7 [(0, 0), (1, 0), (2, 0), (3, 0), (4, 1), (5, 1), (6, 2), (7, 3), (8, 0), (9, 0), (10, 3)] mixed (by kernel_rfl) (fun _ _ _ _ _ h => h) (Part.refl _) ?_
      refine SPO_p rfl (y_move rfl) rfl ?_
      refine SPO_p rfl (y_move rfl) rfl ?_
      refine SPO_p rfl (y_nil rfl) rfl ?_
      refine SPO_p rfl (y_fa fld_159_4 rfl) rfl ?_
      refine SPO_h rfl (y_load Tryz.isAgg157 rfl (by repeat (first | exact Cell.head rfl | apply Cell.tail))) rfl ?_
      refine SPO_h rfl (y_loads Tryz.isAgg164 Tryz.sizeOf164 rfl rfl (by repeat (first | exact Cells.all _ | exact Cells.head rfl | apply Cells.tail))) rfl ?_
      refine SPO_a rfl rfl (SP1_slice1 el_157 rfl rfl rfl rfl rfl ?_)
      intro b113
      refine ⟨⟨_, (by repeat (first | exact Part.nil _ | (apply Part.cons; (first | exact P0 | exact P1 | exact P2 | exact P3 | exact P4 | exact P5 | exact P6 | exact P7 | exact P8 | exact P9 | exact P10 | exact P11 | exact P12 | exact P13 | exact P14 | exact P15 | exact P16 | exact P17 | exact P18 | exact P19 | exact P20 | exact P21 | exact P22 | exact P23)) | (apply Part.flat; simp only [List.cons_append, List.nil_append]) | (apply Part.nilc)))⟩, ?_⟩
      refine SPO_z (k := 0) rfl rfl (SP1_append el_157 (.inl Tryz.underlying157) rfl rfl hfr (by first | exact P0 | exact P1 | exact P2 | exact P3 | exact P4 | exact P5 | exact P6 | exact P7 | exact P8 | exact P9 | exact P10 | exact P11 | exact P12 | exact P13 | exact P14 | exact P15 | exact P16 | exact P17 | exact P18 | exact P19 | exact P20 | exact P21 | exact P22 | exact P23) (Src.of (by repeat (first | exact Cells.all _ | exact Cells.head rfl | apply Cells.tail)) (by rfl)) (by rfl) (by omega) rfl ?_)
      intro fa1 fc1 sf1 hfr1
      refine SPO_p rfl (y_nil rfl) rfl ?_
      refine SPO_p rfl (y_fa fld_159_4 rfl) rfl ?_
      refine SPO_z (k := 0) rfl rfl (SP1_store Tryz.sizeOf157 rfl rfl rfl (by first | exact U0 | exact U1 | exact U2 | exact U3 | exact U4 | exact U5 | exact U6 | exact U7 | exact U8 | exact U9 | exact U10 | exact U11 | exact U12 | exact U13 | exact U14 | exact U15 | exact U16 | exact U17 | exact U18 | exact U19 | exact U20 | exact U21 | exact U22 | exact U23) (by rfl) ?_)
      refine SPO_nil ?_
      refine inBlockP_n ?_
      refine thenP_n ?_
      refine SP_region ?_
      refine SPL_y (y_move rfl) rfl ?_
      refine SPL_y (y_add rfl rfl (by omega)) rfl ?_
      refine SPL_y (y_assign rfl) rfl ?_
      refine SPL_nil ?_
      refine thenP_n ?_
      obtain rfl : i = ([] : List Ins).length := by simp only [List.length_nil] at hi ⊢; omega
      exact Again.intro ((f + 1, acc ++ [(⟨(m.type (m.imq f)).1, (m.type (m.imq f)).2, [], ([] : List Ins), []⟩ : Fm)], fa1, fc1, sf1, List.flatten [sc, sv, []], cs ++ rowM (⟨(m.type (m.imq f)).1, (m.type (m.imq f)).2, [], ([] : List Ins), []⟩ : Fm) sa sc2 none 0 0)) (⟨⟨by dsimp only; omega, by simp [hal], by dsimp only; rw [hrd, show (m.imports.length + m.funcs.length) - f = ((m.imports.length + m.funcs.length) - (f + 1)) + 1 by omega, readsM, if_neg (by rw [hty]; omega), hfa]⟩, hfr1, hfs.snoc (f := (⟨(m.type (m.imq f)).1, (m.type (m.imq f)).2, [], ([] : List Ins), []⟩ : Fm)) (by rw [List.take_of_length_le (Nat.le_refl _)] at hsv; exact hsv) (Arr.nil _ _), same_snoc hal hac hfa.symm⟩) (by simp only []; omega) (by repeat (first | exact Sub.nil _ | refine Sub.cons rfl ?_)) (by repeat (first | exact Part.nil _ | (apply Part.cons; (first | exact P0 | exact P1 | exact P2 | exact P3 | exact P4 | exact P5 | exact P6 | exact P7 | exact P8 | exact P9 | exact P10 | exact P11 | exact P12 | exact P13 | exact P14 | exact P15 | exact P16 | exact P17 | exact P18 | exact P19 | exact P20 | exact P21 | exact P22 | exact P23)) | (apply Part.flat; simp only [List.cons_append, List.nil_append]) | (apply Part.nilc)))
    intro h11_5
    refine SPL_nil ?_
    refine thenP_n ?_
    refine SP_cond_t rfl ?_
    obtain ⟨fn, hfn1, hfn2, hfe, hco⟩ := func_at (m := m) (f := f) (by omega) (by omega)
    have hfnn := hfn fn hfn2
    refine SP_region ?_
    refine SPL_y (y_move rfl) rfl ?_
    refine SPL_y (y_move rfl) rfl ?_
    refine SPL_y (y_move rfl) rfl ?_
    refine SPL_y (y_nil rfl) rfl ?_
    refine SPL_y (y_fa fld_159_0 rfl) rfl ?_
    refine SPL_y (y_load Tryz.isAgg3 rfl (by repeat (first | exact Cell.head rfl | apply Cell.tail))) rfl ?_
    refine SPL_y (y_sub rfl rfl (by omega)) rfl ?_
    refine SPL_one rfl (SP1_call (modm_Func b m s ((f : Int) - m.imports.length) hm) Tryz.call70 rfl rfl (by repeat (first | exact Part.nil _ | (apply Part.cons; (first | exact P0 | exact P1 | exact P2 | exact P3 | exact P4 | exact P5 | exact P6 | exact P7 | exact P8 | exact P9 | exact P10 | exact P11 | exact P12 | exact P13 | exact P14 | exact P15 | exact P16 | exact P17 | exact P18 | exact P19 | exact P20 | exact P21 | exact P22 | exact P23)) | (apply Part.flat; simp only [List.cons_append, List.nil_append]) | (apply Part.nilc))) ?_)
    rintro v post H' ⟨rfl, rfl⟩ hH
    try simp only [List.cons_append, List.nil_append] at hH
    subst hH
    rw [hfe]
    dsimp only
    refine SPL_y (y_move rfl) rfl ?_
    refine SPL_y (y_ext rfl rfl) rfl ?_
    refine SPL_y (y_ext rfl rfl) rfl ?_
    refine SPL_y (y_ext rfl rfl) rfl ?_
    refine SPL_y (y_assign rfl) rfl ?_
    refine SPL_y (y_assign rfl) rfl ?_
    refine SPL_y (y_assign rfl) rfl ?_
    refine SPL_nil ?_
    refine thenP_n ?_
    refine SP_seq ?_
    refine SP_seq ?_
    have hty : tyAt m f = fn.typ := by unfold tyAt; rw [if_neg (by omega), hfe]
    have hfa : funAtM m f = ⟨(m.type fn.typ).1, (m.type fn.typ).2, fn.locals, fn.code, []⟩ := by unfold funAtM; rw [hty, if_neg (by omega), if_neg (by omega), hfe, hco]
    refine SP_region ?_
    refine SPL_y (y_move rfl) rfl ?_
    refine SPL_y (y_move rfl) rfl ?_
    refine SPL_if (y_geq rfl rfl) rfl ?_ ?_
    · intro h13_2
      refine SPL_nil ?_
      refine thenP_n ?_
      refine SP_cond_t rfl ?_
      refine SP_seq ?_
      refine SP_region ?_
      refine SPL_y (y_move rfl) rfl ?_
      refine SPL_y (y_assign rfl) rfl ?_
      refine SPL_y (y_assign rfl) rfl ?_
      refine SPL_y (y_assign rfl) rfl ?_
      refine SPL_y (y_assign rfl) rfl ?_
      refine SPL_nil ?_
      refine thenP_n ?_
      refine SP_ret ?_
      refine thenP_ret (inBlockP_ret (thenP_ret (thenP_ret (inBlockP_ret (thenP_ret (bodyP_ret (H' := [s]) (Res4 rfl rfl rfl rfl rfl) (by repeat (first | exact Part.nil _ | (apply Part.cons; (first | exact P0 | exact P1 | exact P2 | exact P3 | exact P4 | exact P5 | exact P6 | exact P7 | exact P8 | exact P9 | exact P10 | exact P11 | exact P12 | exact P13 | exact P14 | exact P15 | exact P16 | exact P17 | exact P18 | exact P19 | exact P20 | exact P21 | exact P22 | exact P23)) | (apply Part.flat; simp only [List.cons_append, List.nil_append]) | (apply Part.nilc))) ?_))))))
      have e : loadMM m = (⟨m.imports.length, m.min, m.max, acc⟩, (f : Int), -1, 5) := by unfold loadMM; dsimp only; rw [hrd, show (m.imports.length + m.funcs.length) - f = ((m.imports.length + m.funcs.length) - (f + 1)) + 1 by omega, readsM, if_pos (by rw [hty]; omega)]
      rw [e]
      exact .inr ⟨(show (5 : Int) ≠ 0 by decide), rfl, rfl⟩
    intro h13_2
    refine SPL_nil ?_
    refine thenP_n ?_
    refine SP_cond_f rfl ?_
    refine SP_skip ?_
    refine thenP_n ?_
    refine SP_seq ?_
    refine SP_region ?_
    refine SPL_y (y_move rfl) rfl ?_
    refine SPL_y (y_build B164 rfl rfl (by simp only [fillL, List.foldl_cons, List.foldl_nil, List.set_cons_zero, List.set_cons_succ]; exact rfl)) rfl ?_
    refine SPL_one rfl (SP1_alloc Tryz.zeroValue164 rfl rfl ?_)
    intro b13
    refine SPL_one rfl (SP1_storeAll Tryz.sizeOf164 rfl rfl rfl rfl rfl (by first | exact U0 | exact U1 | exact U2 | exact U3 | exact U4 | exact U5 | exact U6 | exact U7 | exact U8 | exact U9 | exact U10 | exact U11 | exact U12 | exact U13 | exact U14 | exact U15 | exact U16 | exact U17 | exact U18 | exact U19 | exact U20 | exact U21 | exact U22 | exact U23) (by rfl) ?_)
    refine SPL_nil ?_
    refine thenP_n ?_
    refine SP_seq ?_
    refine SP_region ?_
    refine SPL_y (y_move rfl) rfl ?_
    refine SPL_y (y_move rfl) rfl ?_
    refine SPL_one rfl (SP1_call (modm_Type b m s _ hm hrl) Tryz.call71 rfl rfl (by repeat (first | exact Part.nil _ | (apply Part.cons; (first | exact P0 | exact P1 | exact P2 | exact P3 | exact P4 | exact P5 | exact P6 | exact P7 | exact P8 | exact P9 | exact P10 | exact P11 | exact P12 | exact P13 | exact P14 | exact P15 | exact P16 | exact P17 | exact P18 | exact P19 | exact P20 | exact P21 | exact P22 | exact P23)) | (apply Part.flat; simp only [List.cons_append, List.nil_append]) | (apply Part.nilc))) ?_)
    rintro v post H' ⟨rfl, rfl⟩ hH
    try simp only [List.cons_append, List.nil_append] at hH
    subst hH
    refine SPL_y (y_move rfl) rfl ?_
    refine SPL_y (y_ext rfl rfl) rfl ?_
    refine SPL_y (y_ext rfl rfl) rfl ?_
    refine SPL_y (y_fa fld_164_0 rfl) rfl ?_
    refine SPL_one rfl (SP1_store Tryz.sizeOf9 rfl rfl rfl (by first | exact U0 | exact U1 | exact U2 | exact U3 | exact U4 | exact U5 | exact U6 | exact U7 | exact U8 | exact U9 | exact U10 | exact U11 | exact U12 | exact U13 | exact U14 | exact U15 | exact U16 | exact U17 | exact U18 | exact U19 | exact U20 | exact U21 | exact U22 | exact U23) (by rfl) ?_)
    refine SPL_y (y_fa fld_164_1 rfl) rfl ?_
    refine SPL_one rfl (SP1_store Tryz.sizeOf9 rfl rfl rfl (by first | exact U0 | exact U1 | exact U2 | exact U3 | exact U4 | exact U5 | exact U6 | exact U7 | exact U8 | exact U9 | exact U10 | exact U11 | exact U12 | exact U13 | exact U14 | exact U15 | exact U16 | exact U17 | exact U18 | exact U19 | exact U20 | exact U21 | exact U22 | exact U23) (by rfl) ?_)
    refine SPL_nil ?_
    refine thenP_n ?_
    refine SP_seq ?_
    refine SP_seq ?_
    refine SP_region ?_
    refine SPL_y (y_assign rfl) rfl ?_
    refine SPL_nil ?_
    refine thenP_n ?_
    refine SP_block ?_
    refine SP_loop (G := Nat × Option Addr × Nat × Seg) (fun g => fn.code.length - g.1) (fun g => [(0, .pointer (some ⟨b, 0, none⟩)), (6, .pointer (some ⟨pb, 0, none⟩)), (7, I m.params.length), (8, I m.funcs.length), (9, I f), (12, I fn.code.length), (13, .pointer (some ⟨b13, 0, none⟩)), (14, I g.1)]) (fun g => [blk pb 159 [I m.imports.length, I m.min, I m.max, I 0, .slice fa f fc], sf, sc, s, blk b13 164 [S (m.type fn.typ).1, S (m.type fn.typ).2, S fn.locals, .slice g.2.1 g.1 g.2.2.1, .slice none 0 0], g.2.2.2]) (fun g => g.1 ≤ fn.code.length ∧ Arr 87 3 g.2.1 g.1 g.2.2.1 (codeV (fn.code.take g.1)) g.2.2.2) ((0, none, 0, [])) (⟨Nat.zero_le _, Arr.nil _ _⟩) (by repeat (first | exact Sub.nil _ | refine Sub.cons rfl ?_)) (by repeat (first | exact Part.nil _ | (apply Part.cons; (first | exact P0 | exact P1 | exact P2 | exact P3 | exact P4 | exact P5 | exact P6 | exact P7 | exact P8 | exact P9 | exact P10 | exact P11 | exact P12 | exact P13 | exact P14 | exact P15 | exact P16 | exact P17 | exact P18 | exact P19 | exact P20 | exact P21 | exact P22 | exact P23)) | (apply Part.flat; simp only [List.cons_append, List.nil_append]) | (apply Part.nilc))) ?_
    rintro ⟨i, sa, sc2, sv⟩ ⟨hi, hsv⟩
    dsimp only at hi hsv ⊢
    refine SP_seq ?_
    refine SP_seq ?_
    refine SP_region ?_
    refine SPL_y (y_move rfl) rfl ?_
    refine SPL_y (y_move rfl) rfl ?_
    refine SPL_ifn (y_lss rfl rfl) rfl ?_ ?_
    · intro h18_2
      refine SPL_nil ?_
      refine thenP_n ?_
      refine SP_cond_f rfl ?_
      refine SP_exit ?_
      refine thenP_exit ?_
      refine thenP_exit ?_
      refine inBlockP_hit ?_
      refine thenP_n ?_
      refine SP_draw 7 [(0, 0), (1, 0), (2, 0), (3, 0), (4, 1), (5, 1), (6, 2), (7, 3), (8, 0), (9, 0), (10, 3)] mixed (by kernel_rfl) (fun _ _ _ _ _ h => h) (Part.refl _) ?_
      refine SPO_p rfl (y_move rfl) rfl ?_
      refine SPO_p rfl (y_move rfl) rfl ?_
      refine SPO_p rfl (y_nil rfl) rfl ?_
      refine SPO_p rfl (y_fa fld_159_4 rfl) rfl ?_
      refine SPO_h rfl (y_load Tryz.isAgg157 rfl (by repeat (first | exact Cell.head rfl | apply Cell.tail))) rfl ?_
      refine SPO_h rfl (y_loads Tryz.isAgg164 Tryz.sizeOf164 rfl rfl (by repeat (first | exact Cells.all _ | exact Cells.head rfl | apply Cells.tail))) rfl ?_
      refine SPO_a rfl rfl (SP1_slice1 el_157 rfl rfl rfl rfl rfl ?_)
      intro b113
      refine ⟨⟨_, (by repeat (first | exact Part.nil _ | (apply Part.cons; (first | exact P0 | exact P1 | exact P2 | exact P3 | exact P4 | exact P5 | exact P6 | exact P7 | exact P8 | exact P9 | exact P10 | exact P11 | exact P12 | exact P13 | exact P14 | exact P15 | exact P16 | exact P17 | exact P18 | exact P19 | exact P20 | exact P21 | exact P22 | exact P23)) | (apply Part.flat; simp only [List.cons_append, List.nil_append]) | (apply Part.nilc)))⟩, ?_⟩
      refine SPO_z (k := 0) rfl rfl (SP1_append el_157 (.inl Tryz.underlying157) rfl rfl hfr (by first | exact P0 | exact P1 | exact P2 | exact P3 | exact P4 | exact P5 | exact P6 | exact P7 | exact P8 | exact P9 | exact P10 | exact P11 | exact P12 | exact P13 | exact P14 | exact P15 | exact P16 | exact P17 | exact P18 | exact P19 | exact P20 | exact P21 | exact P22 | exact P23) (Src.of (by repeat (first | exact Cells.all _ | exact Cells.head rfl | apply Cells.tail)) (by rfl)) (by rfl) (by omega) rfl ?_)
      intro fa1 fc1 sf1 hfr1
      refine SPO_p rfl (y_nil rfl) rfl ?_
      refine SPO_p rfl (y_fa fld_159_4 rfl) rfl ?_
      refine SPO_z (k := 0) rfl rfl (SP1_store Tryz.sizeOf157 rfl rfl rfl (by first | exact U0 | exact U1 | exact U2 | exact U3 | exact U4 | exact U5 | exact U6 | exact U7 | exact U8 | exact U9 | exact U10 | exact U11 | exact U12 | exact U13 | exact U14 | exact U15 | exact U16 | exact U17 | exact U18 | exact U19 | exact U20 | exact U21 | exact U22 | exact U23) (by rfl) ?_)
      refine SPO_nil ?_
      refine inBlockP_n ?_
      refine thenP_n ?_
      refine SP_region ?_
      refine SPL_y (y_move rfl) rfl ?_
      refine SPL_y (y_add rfl rfl (by omega)) rfl ?_
      refine SPL_y (y_assign rfl) rfl ?_
      refine SPL_nil ?_
      refine thenP_n ?_
      obtain rfl : i = fn.code.length := by omega
      exact Again.intro ((f + 1, acc ++ [(⟨(m.type fn.typ).1, (m.type fn.typ).2, fn.locals, fn.code, []⟩ : Fm)], fa1, fc1, sf1, List.flatten [sc, sv, []], cs ++ rowM (⟨(m.type fn.typ).1, (m.type fn.typ).2, fn.locals, fn.code, []⟩ : Fm) sa sc2 none 0 0)) (⟨⟨by dsimp only; omega, by simp [hal], by dsimp only; rw [hrd, show (m.imports.length + m.funcs.length) - f = ((m.imports.length + m.funcs.length) - (f + 1)) + 1 by omega, readsM, if_neg (by rw [hty]; omega), hfa]⟩, hfr1, hfs.snoc (f := (⟨(m.type fn.typ).1, (m.type fn.typ).2, fn.locals, fn.code, []⟩ : Fm)) (by rw [List.take_of_length_le (Nat.le_refl _)] at hsv; exact hsv) (Arr.nil _ _), same_snoc hal hac hfa.symm⟩) (by simp only []; omega) (by repeat (first | exact Sub.nil _ | refine Sub.cons rfl ?_)) (by repeat (first | exact Part.nil _ | (apply Part.cons; (first | exact P0 | exact P1 | exact P2 | exact P3 | exact P4 | exact P5 | exact P6 | exact P7 | exact P8 | exact P9 | exact P10 | exact P11 | exact P12 | exact P13 | exact P14 | exact P15 | exact P16 | exact P17 | exact P18 | exact P19 | exact P20 | exact P21 | exact P22 | exact P23)) | (apply Part.flat; simp only [List.cons_append, List.nil_append]) | (apply Part.nilc)))
    intro h18_2
    refine SPL_nil ?_
    refine thenP_n ?_
    refine SP_cond_t rfl ?_
    refine SP_skip ?_
    refine thenP_n ?_
    refine SP_seq ?_
    refine SP_block ?_
    refine SP_seq ?_
    have hil : i < fn.code.length := by omega
    refine SP_region ?_
    refine SPL_y (y_move rfl) rfl ?_
    refine SPL_y (y_move rfl) rfl ?_
    refine SPL_y (y_move rfl) rfl ?_
    refine SPL_y (y_nil rfl) rfl ?_
    refine SPL_y (y_fa fld_159_0 rfl) rfl ?_
    refine SPL_y (y_load Tryz.isAgg3 rfl (by repeat (first | exact Cell.head rfl | apply Cell.tail))) rfl ?_
    refine SPL_y (y_sub rfl rfl (by omega)) rfl ?_
    refine SPL_y (y_move rfl) rfl ?_
    refine SPL_one rfl (SP1_call (modm_At b m s ((f : Int) - m.imports.length) i hm) Tryz.call72 rfl rfl (by repeat (first | exact Part.nil _ | (apply Part.cons; (first | exact P0 | exact P1 | exact P2 | exact P3 | exact P4 | exact P5 | exact P6 | exact P7 | exact P8 | exact P9 | exact P10 | exact P11 | exact P12 | exact P13 | exact P14 | exact P15 | exact P16 | exact P17 | exact P18 | exact P19 | exact P20 | exact P21 | exact P22 | exact P23)) | (apply Part.flat; simp only [List.cons_append, List.nil_append]) | (apply Part.nilc))) ?_)
    rintro v post H' ⟨rfl, rfl⟩ hH
    try simp only [List.cons_append, List.nil_append] at hH
    subst hH
    rw [at_code (by omega) hfn1 hil]
    refine SPL_one rfl (SP1_alloc Tryz.zeroValue87 rfl rfl ?_)
    intro b15
    refine SPL_one rfl (SP1_storeAll Tryz.sizeOf87 rfl rfl rfl rfl rfl (by first | exact U0 | exact U1 | exact U2 | exact U3 | exact U4 | exact U5 | exact U6 | exact U7 | exact U8 | exact U9 | exact U10 | exact U11 | exact U12 | exact U13 | exact U14 | exact U15 | exact U16 | exact U17 | exact U18 | exact U19 | exact U20 | exact U21 | exact U22 | exact U23) (by rfl) ?_)
    refine SPL_nil ?_
    refine thenP_n ?_
    refine SP_region ?_
    refine SPL_y (y_fa fld_164_3 rfl) rfl ?_
    refine SPL_y (y_load Tryz.isAgg34 rfl (by repeat (first | exact Cell.head rfl | apply Cell.tail))) rfl ?_
    refine SPL_y (y_loads Tryz.isAgg87 Tryz.sizeOf87 rfl rfl (by repeat (first | exact Cells.all _ | exact Cells.head rfl | apply Cells.tail))) rfl ?_
    refine SPL_one rfl (SP1_slice1 el_34 rfl rfl rfl rfl rfl ?_)
    intro b104
    refine SPL_one rfl (SP1_append el_34 (.inl Tryz.underlying34) rfl rfl hsv (by first | exact P0 | exact P1 | exact P2 | exact P3 | exact P4 | exact P5 | exact P6 | exact P7 | exact P8 | exact P9 | exact P10 | exact P11 | exact P12 | exact P13 | exact P14 | exact P15 | exact P16 | exact P17 | exact P18 | exact P19 | exact P20 | exact P21 | exact P22 | exact P23) (Src.of (by repeat (first | exact Cells.all _ | exact Cells.head rfl | apply Cells.tail)) (by rfl)) (by rfl) (by omega) rfl ?_)
    intro sa1 sc1 sv1 hsv1
    refine SPL_y (y_fa fld_164_3 rfl) rfl ?_
    refine SPL_one rfl (SP1_store Tryz.sizeOf34 rfl rfl rfl (by first | exact U0 | exact U1 | exact U2 | exact U3 | exact U4 | exact U5 | exact U6 | exact U7 | exact U8 | exact U9 | exact U10 | exact U11 | exact U12 | exact U13 | exact U14 | exact U15 | exact U16 | exact U17 | exact U18 | exact U19 | exact U20 | exact U21 | exact U22 | exact U23) (by rfl) ?_)
    refine SPL_nil ?_
    refine inBlockP_n ?_
    refine thenP_n ?_
    refine SP_region ?_
    refine SPL_y (y_move rfl) rfl ?_
    refine SPL_y (y_add rfl rfl (by omega)) rfl ?_
    refine SPL_y (y_assign rfl) rfl ?_
    refine SPL_nil ?_
    refine thenP_n ?_
    exact Again.intro ((i + 1, sa1, sc1, sv1)) (⟨by dsimp only; omega, by dsimp only; rw [List.take_succ_eq_append_getElem hil, codeV_app]; exact hsv1⟩) (by simp only []; omega) (by repeat (first | exact Sub.nil _ | refine Sub.cons rfl ?_)) (by repeat (first | exact Part.nil _ | (apply Part.cons; (first | exact P0 | exact P1 | exact P2 | exact P3 | exact P4 | exact P5 | exact P6 | exact P7 | exact P8 | exact P9 | exact P10 | exact P11 | exact P12 | exact P13 | exact P14 | exact P15 | exact P16 | exact P17 | exact P18 | exact P19 | exact P20 | exact P21 | exact P22 | exact P23)) | (apply Part.flat; simp only [List.cons_append, List.nil_append]) | (apply Part.nilc)))
  intro h8_7
  refine SPL_nil ?_
  refine thenP_n ?_
  refine SP_cond_f rfl ?_
  refine SP_exit ?_
  refine thenP_exit ?_
  refine thenP_exit ?_
  refine inBlockP_hit ?_
  refine thenP_n ?_
  refine SP_seq ?_
  refine SP_seq ?_
  obtain rfl : f = (m.imports.length + m.funcs.length) := by omega
  obtain ⟨R, hR⟩ : ∃ x, acc = x := ⟨_, rfl⟩
  have hrd2 : readsM m (m.imports.length + m.funcs.length) [] 0 = (R, none) := by rw [hrd, Nat.sub_self, hR]; rfl
  refine SP_region ?_
  refine SPL_y (y_move rfl) rfl ?_
  refine SPL_y (y_nil rfl) rfl ?_
  refine SPL_y (y_fa fld_159_0 rfl) rfl ?_
  refine SPL_y (y_load Tryz.isAgg3 rfl (by repeat (first | exact Cell.head rfl | apply Cell.tail))) rfl ?_
  refine SPL_y (y_assign rfl) rfl ?_
  refine SPL_nil ?_
  refine thenP_n ?_
  refine SP_block ?_
  refine SP_loop (G := Nat × List Fm × Option Addr × Nat × Seg × Seg × List Value) (fun g => (m.imports.length + m.funcs.length) - g.1) (fun g => [(6, .pointer (some ⟨pb, 0, none⟩)), (16, I g.1)]) (fun g => [blk pb 159 [I m.imports.length, I m.min, I m.max, I 0, .slice g.2.2.1 (m.imports.length + m.funcs.length) g.2.2.2.1], g.2.2.2.2.1, g.2.2.2.2.2.1, s]) (fun g => (m.imports.length ≤ g.1 ∧ g.1 ≤ (m.imports.length + m.funcs.length) ∧ g.2.1.length = (m.imports.length + m.funcs.length) ∧ bodiesM m.funcs.length R m.imports.length = bodiesM ((m.imports.length + m.funcs.length) - g.1) g.2.1 g.1) ∧ Arr 164 5 g.2.2.1 (m.imports.length + m.funcs.length) g.2.2.2.1 g.2.2.2.2.2.2 g.2.2.2.2.1 ∧ FunsM g.2.1 g.2.2.2.2.2.2 g.2.2.2.2.2.1 ∧ SameM m g.2.1 ∧ ∀ (i : Nat) (x : Fm), g.1 ≤ i → g.2.1[i]? = some x → x.code = []) ((m.imports.length, acc, fa, fc, sf, sc, cs)) (⟨⟨Nat.le_refl _, Nat.le_add_right _ _, hal, by dsimp only; rw [hR, Nat.add_sub_cancel_left]⟩, hfr, hfs, fun j x hx => by rw [hac j x hx]; rfl, fun j x _ hx => by rw [hac j x hx]; rfl⟩) (by repeat (first | exact Sub.nil _ | refine Sub.cons rfl ?_)) (by repeat (first | exact Part.nil _ | (apply Part.cons; (first | exact P0 | exact P1 | exact P2 | exact P3 | exact P4 | exact P5 | exact P6 | exact P7 | exact P8 | exact P9 | exact P10 | exact P11 | exact P12 | exact P13 | exact P14 | exact P15 | exact P16 | exact P17 | exact P18 | exact P19 | exact P20 | exact P21 | exact P22 | exact P23)) | (apply Part.flat; simp only [List.cons_append, List.nil_append]) | (apply Part.nilc))) ?_
  rintro ⟨f, fs, fa, fc, sf, sc, cs⟩ ⟨⟨hf1, hf, hfl, hbo⟩, hfr, hfs, hS, hcd0⟩
  dsimp only at hf1 hf hfl hbo hfr hfs hS hcd0 ⊢
  refine SP_seq ?_
  refine SP_seq ?_
  refine SP_region ?_
  refine SPL_y (y_move rfl) rfl ?_
  refine SPL_y (y_move rfl) rfl ?_
  refine SPL_y (y_nil rfl) rfl ?_
  refine SPL_y (y_fa fld_159_4 rfl) rfl ?_
  refine SPL_y (y_load Tryz.isAgg157 rfl (by repeat (first | exact Cell.head rfl | apply Cell.tail))) rfl ?_
  refine SPL_y (y_len_l Tryz.underlying157 rfl) rfl ?_
  refine SPL_ifn (y_lss rfl rfl) rfl ?_ ?_
  · intro h24_6
    refine SPL_nil ?_
    refine thenP_n ?_
    refine SP_cond_f rfl ?_
    refine SP_exit ?_
    refine thenP_exit ?_
    refine thenP_exit ?_
    refine inBlockP_hit ?_
    refine thenP_n ?_
    refine SP_seq ?_
    refine SP_region ?_
    refine SPL_y (y_move rfl) rfl ?_
    refine SPL_y (y_assign rfl) rfl ?_
    refine SPL_y (y_assign rfl) rfl ?_
    refine SPL_y (y_assign rfl) rfl ?_
    refine SPL_y (y_assign rfl) rfl ?_
    refine SPL_nil ?_
    refine thenP_n ?_
    refine SP_ret ?_
    refine bodyP_ret (H' := [List.flatten [blk pb 159 [I m.imports.length, I m.min, I m.max, I 0, .slice fa (m.imports.length + m.funcs.length) fc], sf, sc], s]) (Res4 rfl rfl rfl rfl rfl) (by repeat (first | exact Part.nil _ | (apply Part.cons; (first | exact P0 | exact P1 | exact P2 | exact P3 | exact P4 | exact P5 | exact P6 | exact P7 | exact P8 | exact P9 | exact P10 | exact P11 | exact P12 | exact P13 | exact P14 | exact P15 | exact P16 | exact P17 | exact P18 | exact P19 | exact P20 | exact P21 | exact P22 | exact P23)) | (apply Part.flat; simp only [List.cons_append, List.nil_append]) | (apply Part.nilc))) ?_
    obtain rfl : f = (m.imports.length + m.funcs.length) := by omega
    have e : loadMM m = (⟨m.imports.length, m.min, m.max, fs⟩, 0, 0, 0) := by unfold loadMM; dsimp only; rw [hrd2]; dsimp only; rw [hbo, Nat.sub_self, bodiesM]; rfl
    rw [e]
    exact .inl ⟨rfl, _, _, _, rfl, rfl, fc, sf, sc, cs, by dsimp only; rw [hfl], by dsimp only; rw [hfl]; exact hfr, hfs⟩
  intro h24_6
  refine SPL_nil ?_
  refine thenP_n ?_
  refine SP_cond_t rfl ?_
  refine SP_skip ?_
  refine thenP_n ?_
  refine SP_seq ?_
  refine SP_block ?_
  refine SP_seq ?_
  obtain ⟨bf, spf, rfl, hfc, hspf, rfl⟩ := hfr.row (by omega)
  have hflt : f < fs.length := by omega
  obtain ⟨u, hu0⟩ : ∃ u, fs[f] = u := ⟨_, rfl⟩
  have hu : fs[f]? = some u := by rw [List.getElem?_eq_getElem hflt, hu0]
  obtain ⟨la, sa, sc2, ca0, cc0, lb, s1, sv, cd0, s2, rfl, hla, rfl, hsv, hcd00, hput⟩ := hfs.get hflt
  rw [hu0] at hsv hcd00 hput
  have huc := hcd0 f u (Nat.le_refl _) hu
  have hul := funAtM_len ok f
  rw [← hS f u hu] at hul
  dsimp only at hul
  have hRK := hrun fs f u hS hu hf1 (by omega) huc (by rw [hrd2]) hfl
  rw [hu0]
  rw [huc] at hcd00 ⊢
  refine SP_openAt [s1, sv, cd0, s2] (by first | exact P0 | exact P1 | exact P2 | exact P3 | exact P4 | exact P5 | exact P6 | exact P7 | exact P8 | exact P9 | exact P10 | exact P11 | exact P12 | exact P13 | exact P14 | exact P15 | exact P16 | exact P17 | exact P18 | exact P19 | exact P20 | exact P21 | exact P22 | exact P23) ?_
  simp only [List.cons_append, List.nil_append]
  refine SP_region ?_
  refine SPL_y (y_move rfl) rfl ?_
  refine SPL_y (y_nil rfl) rfl ?_
  refine SPL_y (y_fa fld_159_4 rfl) rfl ?_
  refine SPL_y (y_load Tryz.isAgg157 rfl (by repeat (first | exact Cell.head rfl | apply Cell.tail))) rfl ?_
  refine SPL_y (y_move rfl) rfl ?_
  refine SPL_y (y_ia Tryz.underlying157 Tryz.sizeOf164 rfl rfl (by omega)) rfl ?_
  rw [show 0 + ((f : Nat) : Int).toNat * 5 = la.length by omega]
  refine SPL_y (y_assign rfl) rfl ?_
  refine SPL_nil ?_
  refine thenP_n ?_
  refine SP_seq ?_
  refine SP_region ?_
  refine SPL_y (y_build B171 rfl rfl (by simp only [fillL, List.foldl_cons, List.foldl_nil, List.set_cons_zero, List.set_cons_succ]; exact rfl)) rfl ?_
  refine SPL_one rfl (SP1_slice1 el_172 rfl rfl rfl rfl rfl ?_)
  intro bk
  refine SPL_y (y_build B174 rfl rfl (by simp only [fillL, List.foldl_cons, List.foldl_nil, List.set_cons_zero, List.set_cons_succ]; exact rfl)) rfl ?_
  refine SPL_one rfl (SP1_box rfl rfl rfl ?_)
  intro k
  refine SPL_y (y_assign rfl) rfl ?_
  refine SPL_nil ?_
  refine thenP_n ?_
  refine SP_seq ?_
  refine SP_seq ?_
  refine SP_region ?_
  refine SPL_y (y_move rfl) rfl ?_
  refine SPL_y (y_nil rfl) rfl ?_
  refine SPL_y (y_fa fld_164_1 rfl) rfl ?_
  refine SPL_y (y_load Tryz.isAgg9 rfl (by repeat (first | exact row_cell (q := 1) rfl | apply Cell.tail))) rfl ?_
  refine SPL_ifn (y_sne0 rfl rfl) rfl ?_ ?_
  · intro h28_4
    refine SPL_nil ?_
    refine thenP_n ?_
    refine SP_cond_f rfl ?_
    refine SP_skip ?_
    refine thenP_n ?_
    refine SP_seq ?_
    refine SP_region ?_
    refine SPL_y (y_assign rfl) rfl ?_
    refine SPL_nil ?_
    refine thenP_n ?_
    refine SP_block ?_
    refine SP_loop (G := Nat × Km × List Flat × Option Addr × Nat × Seg × Seg) (fun g => u.src.length - g.1) (fun g => [(6, .pointer (some ⟨pb, 0, none⟩)), (16, I f), (17, .pointer (some ⟨bf, la.length, none⟩)), (18, .pointer (some ⟨k, 0, none⟩)), (19, I g.1)]) (fun g => [blk pb 159 [I m.imports.length, I m.min, I m.max, I 0, .slice (some ⟨bf, 0, none⟩) (m.imports.length + m.funcs.length) fc], blk bf 164 (la ++ rowM u sa sc2 g.2.2.2.1 g.2.2.1.length g.2.2.2.2.1 ++ lb ++ spf), g.2.2.2.2.2.2, sv, g.2.2.2.2.2.1, s1, s2, s]) (fun g => g.1 ≤ u.src.length ∧ runOneM fs u u.src (Km.start u) [] 0 = runOneM fs u (u.src.drop g.1) g.2.1 g.2.2.1 g.1 ∧ isKm k g.2.1 g.2.2.2.2.2.2 ∧ Arr 181 4 g.2.2.2.1 g.2.2.1.length g.2.2.2.2.1 (g.2.2.1.flatMap flatV) g.2.2.2.2.2.1 ∧ RunOk fs u (u.src.drop g.1) g.2.1 g.2.2.1 g.1) ((0, Km.start u, [], ca0, cc0, cd0, List.flatten [blk k 174 [.slice none 0 0, .slice (some ⟨bk, 0, none⟩) 1 1], [], blk bk 171 [I 1, I 0, I 0, I (-1), .bool false]])) (⟨Nat.zero_le _, rfl, start1 (by rw [if_pos (List.length_eq_zero_iff.1 (Decidable.not_not.1 h28_4))]), hcd00, hRK⟩) (by repeat (first | exact Sub.nil _ | refine Sub.cons rfl ?_)) (by repeat (first | exact Part.nil _ | (apply Part.cons; (first | exact P0 | exact P1 | exact P2 | exact P3 | exact P4 | exact P5 | exact P6 | exact P7 | exact P8 | exact P9 | exact P10 | exact P11 | exact P12 | exact P13 | exact P14 | exact P15 | exact P16 | exact P17 | exact P18 | exact P19 | exact P20 | exact P21 | exact P22 | exact P23)) | (apply Part.flat; simp only [List.cons_append, List.nil_append]) | (apply Part.nilc))) ?_
    rintro ⟨i, K, code, ca, cc, cd, sk⟩ ⟨hi, hro, hmk, hcd, hrk⟩
    dsimp only at hi hro hmk hcd hrk ⊢
    refine SP_seq ?_
    refine SP_seq ?_
    refine SP_region ?_
    refine SPL_y (y_move rfl) rfl ?_
    refine SPL_y (y_move rfl) rfl ?_
    refine SPL_y (y_nil rfl) rfl ?_
    refine SPL_y (y_fa fld_164_3 rfl) rfl ?_
    refine SPL_y (y_load Tryz.isAgg34 rfl (by repeat (first | exact row_cell (q := 3) rfl | apply Cell.tail))) rfl ?_
    refine SPL_y (y_len_l Tryz.underlying34 rfl) rfl ?_
    refine SPL_ifn (y_lss rfl rfl) rfl ?_ ?_
    · intro h31_6
      refine SPL_nil ?_
      refine thenP_n ?_
      refine SP_cond_f rfl ?_
      refine SP_exit ?_
      refine thenP_exit ?_
      refine thenP_exit ?_
      refine inBlockP_hit ?_
      refine inBlockP_n ?_
      refine thenP_n ?_
      refine SP_region ?_
      refine SPL_y (y_move rfl) rfl ?_
      refine SPL_y (y_add rfl rfl (by omega)) rfl ?_
      refine SPL_y (y_assign rfl) rfl ?_
      refine SPL_nil ?_
      refine thenP_n ?_
      obtain rfl : i = u.src.length := by omega
      have hrr : runOneM fs u u.src (Km.start u) [] 0 = (K, code, 0, 0) := by rw [hro, List.drop_eq_nil_of_le (Nat.le_refl _)]; rfl
      have hput2 := hput code ca cc cd hcd
      exact Again.intro ((f + 1, fs.set f { u with code := code }, some ⟨bf, 0, none⟩, fc, blk bf 164 (la ++ rowM u sa sc2 ca code.length cc ++ lb ++ spf), List.flatten [s1, sv, cd, s2], la ++ rowM u sa sc2 ca code.length cc ++ lb)) (⟨⟨by dsimp only; omega, by dsimp only; omega, by dsimp only; rw [List.length_set]; exact hfl, by dsimp only; rw [hbo, show (m.imports.length + m.funcs.length) - f = ((m.imports.length + m.funcs.length) - (f + 1)) + 1 by omega, bodiesM, hu]; dsimp only; rw [hrr, if_neg (by simp)]⟩, Arr.mk (by rw [hput2.len, List.length_set, hfl]) hfc hspf, hput2, hS.set hu code, fun j x hj hx => by dsimp only at hj hx; rw [List.getElem?_set_ne (by omega)] at hx; exact hcd0 j x (by omega) hx⟩) (by simp only []; omega) (by repeat (first | exact Sub.nil _ | refine Sub.cons rfl ?_)) (by repeat (first | exact Part.nil _ | (apply Part.cons; (first | exact P0 | exact P1 | exact P2 | exact P3 | exact P4 | exact P5 | exact P6 | exact P7 | exact P8 | exact P9 | exact P10 | exact P11 | exact P12 | exact P13 | exact P14 | exact P15 | exact P16 | exact P17 | exact P18 | exact P19 | exact P20 | exact P21 | exact P22 | exact P23)) | (apply Part.flat; simp only [List.cons_append, List.nil_append]) | (apply Part.nilc)))
    intro h31_6
    refine SPL_nil ?_
    refine thenP_n ?_
    refine SP_cond_t rfl ?_
    refine SP_skip ?_
    refine thenP_n ?_
    refine SP_seq ?_
    refine SP_block ?_
    refine SP_seq ?_
    have hil : i < u.src.length := by omega
    rw [List.drop_eq_getElem_cons hil] at hrk
    obtain ⟨hok1, hrk1⟩ := hrk
    refine SP_region ?_
    refine SPL_y (y_move rfl) rfl ?_
    refine SPL_y (y_move rfl) rfl ?_
    refine SPL_y (y_move rfl) rfl ?_
    refine SPL_y (y_move rfl) rfl ?_
    refine SPL_one rfl (SP1_call (pm_oneN pb k bf _ _ _ _ fc fs u la lb spf sa sc2 ca cc code sv cd K sk i u.src[i] hil rfl hsv hcd hmk hok1.kb hok1.lab (by omega) hul.2.2.2.2 hok1.cl ⟨by omega, by omega, by omega⟩ (sigs_at ok hS hu (hput code ca cc cd hcd)) (by omega) hok1.wl hok1.els _ hfl) Tryz.call73 rfl rfl (by repeat (first | exact Part.nil _ | (apply Part.cons; (first | exact P0 | exact P1 | exact P2 | exact P3 | exact P4 | exact P5 | exact P6 | exact P7 | exact P8 | exact P9 | exact P10 | exact P11 | exact P12 | exact P13 | exact P14 | exact P15 | exact P16 | exact P17 | exact P18 | exact P19 | exact P20 | exact P21 | exact P22 | exact P23)) | (apply Part.flat; simp only [List.cons_append, List.nil_append]) | (apply Part.nilc))) ?_)
    rintro v post H' ⟨ca1, cc1, cd1, sk1, rfl, rfl, hmk1, hcd1⟩ hH
    try simp only [List.cons_append, List.nil_append] at hH
    subst hH
    refine SPL_y (y_assign rfl) rfl ?_
    refine SPL_nil ?_
    refine thenP_n ?_
    refine SP_seq ?_
    refine SP_region ?_
    refine SPL_y (y_move rfl) rfl ?_
    refine SPL_ifn (y_neq rfl rfl) rfl ?_ ?_
    · intro h34_1
      refine SPL_nil ?_
      refine thenP_n ?_
      refine SP_cond_f rfl ?_
      refine SP_skip ?_
      refine inBlockP_n ?_
      refine thenP_n ?_
      refine SP_region ?_
      refine SPL_y (y_move rfl) rfl ?_
      refine SPL_y (y_add rfl rfl (by omega)) rfl ?_
      refine SPL_y (y_assign rfl) rfl ?_
      refine SPL_nil ?_
      refine thenP_n ?_
      exact Again.intro ((i + 1, (oneM fs u code K i u.src[i]).1, (oneM fs u code K i u.src[i]).2.1, ca1, cc1, cd1, sk1)) (⟨by dsimp only; omega, by dsimp only; rw [hro, List.drop_eq_getElem_cons hil, runOneM, if_neg h34_1], hmk1, hcd1, hrk1 (by omega)⟩) (by simp only []; omega) (by repeat (first | exact Sub.nil _ | refine Sub.cons rfl ?_)) (by repeat (first | exact Part.nil _ | (apply Part.cons; (first | exact P0 | exact P1 | exact P2 | exact P3 | exact P4 | exact P5 | exact P6 | exact P7 | exact P8 | exact P9 | exact P10 | exact P11 | exact P12 | exact P13 | exact P14 | exact P15 | exact P16 | exact P17 | exact P18 | exact P19 | exact P20 | exact P21 | exact P22 | exact P23)) | (apply Part.flat; simp only [List.cons_append, List.nil_append]) | (apply Part.nilc)))
    intro h34_1
    refine SPL_nil ?_
    refine thenP_n ?_
    refine SP_cond_t rfl ?_
    refine SP_seq ?_
    refine SP_region ?_
    refine SPL_y (y_move rfl) rfl ?_
    refine SPL_y (y_move rfl) rfl ?_
    refine SPL_y (y_move rfl) rfl ?_
    refine SPL_y (y_assign rfl) rfl ?_
    refine SPL_y (y_assign rfl) rfl ?_
    refine SPL_y (y_assign rfl) rfl ?_
    refine SPL_y (y_assign rfl) rfl ?_
    refine SPL_nil ?_
    refine thenP_n ?_
    refine SP_ret ?_
    refine inBlockP_ret (thenP_ret (thenP_ret (inBlockP_ret (inBlockP_ret (thenP_ret (thenP_ret (inBlockP_ret (thenP_ret (bodyP_ret (H' := [s]) (Res4 rfl rfl rfl rfl rfl) (by repeat (first | exact Part.nil _ | (apply Part.cons; (first | exact P0 | exact P1 | exact P2 | exact P3 | exact P4 | exact P5 | exact P6 | exact P7 | exact P8 | exact P9 | exact P10 | exact P11 | exact P12 | exact P13 | exact P14 | exact P15 | exact P16 | exact P17 | exact P18 | exact P19 | exact P20 | exact P21 | exact P22 | exact P23)) | (apply Part.flat; simp only [List.cons_append, List.nil_append]) | (apply Part.nilc))) ?_)))))))))
    have hrr : runOneM fs u u.src (Km.start u) [] 0 = ((oneM fs u code K i u.src[i]).1, (oneM fs u code K i u.src[i]).2.1, i, (oneM fs u code K i u.src[i]).2.2) := by rw [hro, List.drop_eq_getElem_cons hil, runOneM, if_pos h34_1]
    have e : loadMM m = (⟨m.imports.length, m.min, m.max, fs⟩, (f : Int), (i : Int), (oneM fs u code K i u.src[i]).2.2) := by
      unfold loadMM; dsimp only; rw [hrd2]; dsimp only; rw [hbo, show (m.imports.length + m.funcs.length) - f = ((m.imports.length + m.funcs.length) - (f + 1)) + 1 by omega, bodiesM, hu]; dsimp only; rw [hrr, if_pos h34_1]
    rw [e]
    exact .inr ⟨h34_1, rfl, rfl⟩
  intro h28_4
  refine SPL_nil ?_
  refine thenP_n ?_
  refine SP_cond_t rfl ?_
  refine SP_draw 12 [(0, 0), (1, 0), (2, 0), (4, 0), (5, 0), (6, 0), (3, 1), (7, 1), (8, 0), (9, 0), (10, 0), (11, 0), (12, 3)] mixed (by kernel_rfl) (fun _ _ _ _ _ h => h) (Part.refl _) ?_
  refine SPO_p rfl (y_move rfl) rfl ?_
  refine SPO_p rfl (y_nil rfl) rfl ?_
  refine SPO_p rfl (y_fa fld_174_1 rfl) rfl ?_
  refine SPO_p rfl (y_move rfl) rfl ?_
  refine SPO_p rfl (y_nil rfl) rfl ?_
  refine SPO_p rfl (y_fa fld_164_1 rfl) rfl ?_
  refine SPO_h rfl (y_load Tryz.isAgg172 rfl (by repeat (first | exact Cell.head rfl | apply Cell.tail))) rfl ?_
  refine SPO_h rfl (y_load Tryz.isAgg9 rfl (by repeat (first | exact row_cell (q := 1) rfl | apply Cell.tail))) rfl ?_
  refine SPO_p rfl (y_idx_s Tryz.underlying9 rfl rfl (by omega) (show u.results[(0 : Int).toNat]? = some (u.results.getD 0 0) by rw [List.getD_eq_getElem?_getD]; cases hr0 : u.results with | nil => exact absurd (by rw [hr0]; rfl) h28_4 | cons x l => rfl)) rfl ?_
  refine SPO_p rfl (y_conv Tryz.underlying5 Tryz.underlying3 rfl (wrap_i64 (x := ((u.results.getD 0 0).toNat : Int)) (by omega) (by have := UInt8.toNat_lt (u.results.getD 0 0); omega))) rfl ?_
  refine SPO_p rfl (y_ia Tryz.underlying172 Tryz.sizeOf171 rfl rfl (by omega)) rfl ?_
  refine SPO_p rfl (y_fa fld_171_1 rfl) rfl ?_
  refine SPO_z (k := 0) rfl rfl (SP1_store Tryz.sizeOf3 rfl rfl rfl (by first | exact U0 | exact U1 | exact U2 | exact U3 | exact U4 | exact U5 | exact U6 | exact U7 | exact U8 | exact U9 | exact U10 | exact U11 | exact U12 | exact U13 | exact U14 | exact U15 | exact U16 | exact U17 | exact U18 | exact U19 | exact U20 | exact U21 | exact U22 | exact U23) (by rfl) ?_)
  refine SPO_nil ?_
  refine thenP_n ?_
  refine SP_seq ?_
  refine SP_region ?_
  refine SPL_y (y_assign rfl) rfl ?_
  refine SPL_nil ?_
  refine thenP_n ?_
  refine SP_block ?_
  refine SP_loop (G := Nat × Km × List Flat × Option Addr × Nat × Seg × Seg) (fun g => u.src.length - g.1) (fun g => [(6, .pointer (some ⟨pb, 0, none⟩)), (16, I f), (17, .pointer (some ⟨bf, la.length, none⟩)), (18, .pointer (some ⟨k, 0, none⟩)), (19, I g.1)]) (fun g => [blk pb 159 [I m.imports.length, I m.min, I m.max, I 0, .slice (some ⟨bf, 0, none⟩) (m.imports.length + m.funcs.length) fc], blk bf 164 (la ++ rowM u sa sc2 g.2.2.2.1 g.2.2.1.length g.2.2.2.2.1 ++ lb ++ spf), g.2.2.2.2.2.2, sv, g.2.2.2.2.2.1, s1, s2, s]) (fun g => g.1 ≤ u.src.length ∧ runOneM fs u u.src (Km.start u) [] 0 = runOneM fs u (u.src.drop g.1) g.2.1 g.2.2.1 g.1 ∧ isKm k g.2.1 g.2.2.2.2.2.2 ∧ Arr 181 4 g.2.2.2.1 g.2.2.1.length g.2.2.2.2.1 (g.2.2.1.flatMap flatV) g.2.2.2.2.2.1 ∧ RunOk fs u (u.src.drop g.1) g.2.1 g.2.2.1 g.1) ((0, Km.start u, [], ca0, cc0, cd0, List.flatten [blk k 174 [.slice none 0 0, .slice (some ⟨bk, 0, none⟩) 1 1], [], blk bk 171 [I 1, I ((u.results.getD 0 0).toNat : Int), I 0, I (-1), .bool false]])) (⟨Nat.zero_le _, rfl, start1 (by rw [if_neg (fun e => h28_4 (by rw [e]; rfl))]), hcd00, hRK⟩) (by repeat (first | exact Sub.nil _ | refine Sub.cons rfl ?_)) (by repeat (first | exact Part.nil _ | (apply Part.cons; (first | exact P0 | exact P1 | exact P2 | exact P3 | exact P4 | exact P5 | exact P6 | exact P7 | exact P8 | exact P9 | exact P10 | exact P11 | exact P12 | exact P13 | exact P14 | exact P15 | exact P16 | exact P17 | exact P18 | exact P19 | exact P20 | exact P21 | exact P22 | exact P23)) | (apply Part.flat; simp only [List.cons_append, List.nil_append]) | (apply Part.nilc))) ?_
  rintro ⟨i, K, code, ca, cc, cd, sk⟩ ⟨hi, hro, hmk, hcd, hrk⟩
  dsimp only at hi hro hmk hcd hrk ⊢
  refine SP_seq ?_
  refine SP_seq ?_
  refine SP_region ?_
  refine SPL_y (y_move rfl) rfl ?_
  refine SPL_y (y_move rfl) rfl ?_
  refine SPL_y (y_nil rfl) rfl ?_
  refine SPL_y (y_fa fld_164_3 rfl) rfl ?_
  refine SPL_y (y_load Tryz.isAgg34 rfl (by repeat (first | exact row_cell (q := 3) rfl | apply Cell.tail))) rfl ?_
  refine SPL_y (y_len_l Tryz.underlying34 rfl) rfl ?_
  refine SPL_ifn (y_lss rfl rfl) rfl ?_ ?_
  · intro h31_6
    refine SPL_nil ?_
    refine thenP_n ?_
    refine SP_cond_f rfl ?_
    refine SP_exit ?_
    refine thenP_exit ?_
    refine thenP_exit ?_
    refine inBlockP_hit ?_
    refine inBlockP_n ?_
    refine thenP_n ?_
    refine SP_region ?_
    refine SPL_y (y_move rfl) rfl ?_
    refine SPL_y (y_add rfl rfl (by omega)) rfl ?_
    refine SPL_y (y_assign rfl) rfl ?_
    refine SPL_nil ?_
    refine thenP_n ?_
    obtain rfl : i = u.src.length := by omega
    have hrr : runOneM fs u u.src (Km.start u) [] 0 = (K, code, 0, 0) := by rw [hro, List.drop_eq_nil_of_le (Nat.le_refl _)]; rfl
    have hput2 := hput code ca cc cd hcd
    exact Again.intro ((f + 1, fs.set f { u with code := code }, some ⟨bf, 0, none⟩, fc, blk bf 164 (la ++ rowM u sa sc2 ca code.length cc ++ lb ++ spf), List.flatten [s1, sv, cd, s2], la ++ rowM u sa sc2 ca code.length cc ++ lb)) (⟨⟨by dsimp only; omega, by dsimp only; omega, by dsimp only; rw [List.length_set]; exact hfl, by dsimp only; rw [hbo, show (m.imports.length + m.funcs.length) - f = ((m.imports.length + m.funcs.length) - (f + 1)) + 1 by omega, bodiesM, hu]; dsimp only; rw [hrr, if_neg (by simp)]⟩, Arr.mk (by rw [hput2.len, List.length_set, hfl]) hfc hspf, hput2, hS.set hu code, fun j x hj hx => by dsimp only at hj hx; rw [List.getElem?_set_ne (by omega)] at hx; exact hcd0 j x (by omega) hx⟩) (by simp only []; omega) (by repeat (first | exact Sub.nil _ | refine Sub.cons rfl ?_)) (by repeat (first | exact Part.nil _ | (apply Part.cons; (first | exact P0 | exact P1 | exact P2 | exact P3 | exact P4 | exact P5 | exact P6 | exact P7 | exact P8 | exact P9 | exact P10 | exact P11 | exact P12 | exact P13 | exact P14 | exact P15 | exact P16 | exact P17 | exact P18 | exact P19 | exact P20 | exact P21 | exact P22 | exact P23)) | (apply Part.flat; simp only [List.cons_append, List.nil_append]) | (apply Part.nilc)))
  intro h31_6
  refine SPL_nil ?_
  refine thenP_n ?_
  refine SP_cond_t rfl ?_
  refine SP_skip ?_
  refine thenP_n ?_
  refine SP_seq ?_
  refine SP_block ?_
  refine SP_seq ?_
  have hil : i < u.src.length := by omega
  rw [List.drop_eq_getElem_cons hil] at hrk
  obtain ⟨hok1, hrk1⟩ := hrk
  refine SP_region ?_
  refine SPL_y (y_move rfl) rfl ?_
  refine SPL_y (y_move rfl) rfl ?_
  refine SPL_y (y_move rfl) rfl ?_
  refine SPL_y (y_move rfl) rfl ?_
  refine SPL_one rfl (SP1_call (pm_oneN pb k bf _ _ _ _ fc fs u la lb spf sa sc2 ca cc code sv cd K sk i u.src[i] hil rfl hsv hcd hmk hok1.kb hok1.lab (by omega) hul.2.2.2.2 hok1.cl ⟨by omega, by omega, by omega⟩ (sigs_at ok hS hu (hput code ca cc cd hcd)) (by omega) hok1.wl hok1.els _ hfl) Tryz.call73 rfl rfl (by repeat (first | exact Part.nil _ | (apply Part.cons; (first | exact P0 | exact P1 | exact P2 | exact P3 | exact P4 | exact P5 | exact P6 | exact P7 | exact P8 | exact P9 | exact P10 | exact P11 | exact P12 | exact P13 | exact P14 | exact P15 | exact P16 | exact P17 | exact P18 | exact P19 | exact P20 | exact P21 | exact P22 | exact P23)) | (apply Part.flat; simp only [List.cons_append, List.nil_append]) | (apply Part.nilc))) ?_)
  rintro v post H' ⟨ca1, cc1, cd1, sk1, rfl, rfl, hmk1, hcd1⟩ hH
  try simp only [List.cons_append, List.nil_append] at hH
  subst hH
  refine SPL_y (y_assign rfl) rfl ?_
  refine SPL_nil ?_
  refine thenP_n ?_
  refine SP_seq ?_
  refine SP_region ?_
  refine SPL_y (y_move rfl) rfl ?_
  refine SPL_ifn (y_neq rfl rfl) rfl ?_ ?_
  · intro h34_1
    refine SPL_nil ?_
    refine thenP_n ?_
    refine SP_cond_f rfl ?_
    refine SP_skip ?_
    refine inBlockP_n ?_
    refine thenP_n ?_
    refine SP_region ?_
    refine SPL_y (y_move rfl) rfl ?_
    refine SPL_y (y_add rfl rfl (by omega)) rfl ?_
    refine SPL_y (y_assign rfl) rfl ?_
    refine SPL_nil ?_
    refine thenP_n ?_
    exact Again.intro ((i + 1, (oneM fs u code K i u.src[i]).1, (oneM fs u code K i u.src[i]).2.1, ca1, cc1, cd1, sk1)) (⟨by dsimp only; omega, by dsimp only; rw [hro, List.drop_eq_getElem_cons hil, runOneM, if_neg h34_1], hmk1, hcd1, hrk1 (by omega)⟩) (by simp only []; omega) (by repeat (first | exact Sub.nil _ | refine Sub.cons rfl ?_)) (by repeat (first | exact Part.nil _ | (apply Part.cons; (first | exact P0 | exact P1 | exact P2 | exact P3 | exact P4 | exact P5 | exact P6 | exact P7 | exact P8 | exact P9 | exact P10 | exact P11 | exact P12 | exact P13 | exact P14 | exact P15 | exact P16 | exact P17 | exact P18 | exact P19 | exact P20 | exact P21 | exact P22 | exact P23)) | (apply Part.flat; simp only [List.cons_append, List.nil_append]) | (apply Part.nilc)))
  intro h34_1
  refine SPL_nil ?_
  refine thenP_n ?_
  refine SP_cond_t rfl ?_
  refine SP_seq ?_
  refine SP_region ?_
  refine SPL_y (y_move rfl) rfl ?_
  refine SPL_y (y_move rfl) rfl ?_
  refine SPL_y (y_move rfl) rfl ?_
  refine SPL_y (y_assign rfl) rfl ?_
  refine SPL_y (y_assign rfl) rfl ?_
  refine SPL_y (y_assign rfl) rfl ?_
  refine SPL_y (y_assign rfl) rfl ?_
  refine SPL_nil ?_
  refine thenP_n ?_
  refine SP_ret ?_
  refine inBlockP_ret (thenP_ret (thenP_ret (inBlockP_ret (inBlockP_ret (thenP_ret (thenP_ret (inBlockP_ret (thenP_ret (bodyP_ret (H' := [s]) (Res4 rfl rfl rfl rfl rfl) (by repeat (first | exact Part.nil _ | (apply Part.cons; (first | exact P0 | exact P1 | exact P2 | exact P3 | exact P4 | exact P5 | exact P6 | exact P7 | exact P8 | exact P9 | exact P10 | exact P11 | exact P12 | exact P13 | exact P14 | exact P15 | exact P16 | exact P17 | exact P18 | exact P19 | exact P20 | exact P21 | exact P22 | exact P23)) | (apply Part.flat; simp only [List.cons_append, List.nil_append]) | (apply Part.nilc))) ?_)))))))))
  have hrr : runOneM fs u u.src (Km.start u) [] 0 = ((oneM fs u code K i u.src[i]).1, (oneM fs u code K i u.src[i]).2.1, i, (oneM fs u code K i u.src[i]).2.2) := by rw [hro, List.drop_eq_getElem_cons hil, runOneM, if_pos h34_1]
  have e : loadMM m = (⟨m.imports.length, m.min, m.max, fs⟩, (f : Int), (i : Int), (oneM fs u code K i u.src[i]).2.2) := by
    unfold loadMM; dsimp only; rw [hrd2]; dsimp only; rw [hbo, show (m.imports.length + m.funcs.length) - f = ((m.imports.length + m.funcs.length) - (f + 1)) + 1 by omega, bodiesM, hu]; dsimp only; rw [hrr, if_pos h34_1]
  rw [e]
  exact .inr ⟨h34_1, rfl, rfl⟩

end Go.Sl
