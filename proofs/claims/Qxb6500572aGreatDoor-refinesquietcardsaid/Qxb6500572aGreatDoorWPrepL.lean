/- Walks: package prep, the loading (made by program out of short notes) -/
import Derived.Test.Qxb6500572aGreatDoorWPrepK
import Derived.Test.Qxb6500572aGreatDoorPInv
import Derived.Test.Qxb6500572aGreatDoorWModmB
namespace Go.Sl
open Go Go.Wl Go.Proofs
set_option maxRecDepth 100000
set_option linter.unusedVariables false
set_option linter.unusedSimpArgs false
theorem isProg_intro {pb n : Nat} {fa : Option Addr} {P : Prog} {steps : Int} {fc : Nat} {sf sc : Seg} {cs : List Value} (hn : P.funs.length = n) (h1 : Arr 108 4 fa n fc cs sf) (h2 : Funs P.funs cs sc) :
    isProg pb fa P steps (List.flatten [blk pb 96 [I P.nimp, I P.min, I P.max, I steps, .slice fa n fc], sf, sc]) := by
  subst hn; exact ⟨fc, sf, sc, cs, rfl, h1, h2⟩
theorem flat_rep (n : Nat) : (List.replicate n [Value.int .i64 0]).flatten = (List.replicate n (0 : Int)).map I := by
  induction n with
  | zero => rfl
  | succ n ih => rw [List.replicate_succ, List.replicate_succ, List.flatten_cons, ih]; rfl
theorem set_mapI (l : List Int) (f : Nat) (x : Int) : (l.map I).set (0 + ((f : Nat) : Int).toNat * 1) (I x) = (l.set f x).map I := by
  rw [Int.toNat_natCast, Nat.zero_add, Nat.mul_one, List.map_set]
/-- A function's signature within its bounds. -/
def FunOk (u : Fun) : Prop := u.params.length ≤ 3 ∧ u.results.length ≤ 1 ∧ u.locals.length ≤ 4
theorem type_ok {m : Mod} (ok : ModOk m) (t : Int) : (m.type t).1.length ≤ 3 ∧ (m.type t).2.length ≤ 1 := by
  unfold Mod.type
  split
  · simp
  · rename_i h
    have h1 : t.toNat < m.params.length := by omega
    have h2 : t.toNat < m.results.length := by rw [ok.rl]; exact h1
    dsimp only
    rw [List.getD_eq_getElem?_getD, List.getElem?_eq_getElem h1, List.getD_eq_getElem?_getD, List.getElem?_eq_getElem h2]
    exact ⟨(ok.ps _ (List.getElem_mem h1)).1, (ok.rs _ (List.getElem_mem h2)).1⟩
theorem func_at {m : Mod} {f : Nat} (h1 : m.imports.length ≤ f) (h2 : f < m.imports.length + m.funcs.length) : ∃ fn, m.funcs[f - m.imports.length]? = some fn ∧ fn ∈ m.funcs ∧ m.func ((f : Int) - m.imports.length) = (fn.typ, fn.locals, (fn.code.length : Int)) ∧ codeOf m f = fn.code := by
  have hi : f - m.imports.length < m.funcs.length := by omega
  refine ⟨m.funcs[f - m.imports.length], List.getElem?_eq_getElem hi, List.getElem_mem hi, ?_, ?_⟩
  · unfold Mod.func; rw [if_neg (by omega), show ((f : Int) - m.imports.length).toNat = f - m.imports.length by omega, List.getElem?_eq_getElem hi]
  · unfold codeOf; rw [List.getElem?_eq_getElem hi]
theorem at_code {m : Mod} {f i : Nat} {fn : Wl.Fn} (h1 : m.imports.length ≤ f) (h : m.funcs[f - m.imports.length]? = some fn) (hi : i < fn.code.length) : m.at ((f : Int) - m.imports.length) i = fn.code[i] := by
  unfold Mod.at
  rw [if_pos (by omega), show ((f : Int) - m.imports.length).toNat = f - m.imports.length by omega, h]
  dsimp only
  rw [if_pos (by omega), Int.toNat_natCast, List.getElem?_eq_getElem hi]
theorem set_ok {fs : List Fun} {f : Nat} {u : Fun} (h : ∀ x, x ∈ fs → FunOk x) (hu : FunOk u) : ∀ x, x ∈ fs.set f u → FunOk x := fun x hx => by
  rcases List.mem_or_eq_of_mem_set hx with h1 | h1
  · exact h x h1
  · rw [h1]; exact hu

theorem prep_load (pb b : Nat) (m : Mod) (s : Seg) (hm : isMod b m s) (ok : ModOk m) : Spec Tryz.prog 54 [.pointer (some ⟨pb, 0, none⟩), .pointer (some ⟨b, 0, none⟩)] [blk pb 96 [I 0, I 0, I 0, I 0, .slice none 0 0], s] (Ret fun v H => ∃ fa sp, v = .tuple #[I (loadM m).2.1, I (loadM m).2.2.1, I (loadM m).2.2.2] ∧ H = [sp, s] ∧ isProg pb fa (loadM m).1 0 sp) := by
  have hok := ok
  obtain ⟨hnt, hrl, hni, hnf, hps, hrs, him, hmem, hfn⟩ := hok
  refine Spec_enter Tryz.func54 rfl Tryz.ntmps54 rfl ?_
  show SP _ _ _ _ _ [(0, _), (1, _)] _
  refine SP_seq ?_
  refine SP_region ?_
  refine SPL_y (y_assign rfl) rfl ?_
  refine SPL_y (y_assign rfl) rfl ?_
  refine SPL_y (y_assign rfl) rfl ?_
  refine SPL_nil ?_
  refine thenP_n ?_
  refine SP_seq ?_
  refine SP_seq ?_
  refine SP_region ?_
  refine SPL_y (y_move rfl) rfl ?_
  refine SPL_if (y_peq_nil Tryz.underlying32 rfl rfl) rfl ?_ ?_
  · intro h1_1
    cases h1_1
  intro h1_1
  refine SPL_nil ?_
  refine thenP_n ?_
  refine SP_cond_f rfl ?_
  refine SP_skip ?_
  refine thenP_n ?_
  refine SP_seq ?_
  refine SP_region ?_
  refine SPL_y (y_move rfl) rfl ?_
  refine SPL_y (y_move rfl) rfl ?_
  refine SPL_one rfl (SP1_call (modm_NImports b m s hm) Tryz.call65 rfl rfl (by repeat (first | exact Part.nil _ | (apply Part.cons; (first | exact P0 | exact P1 | exact P2 | exact P3 | exact P4 | exact P5 | exact P6 | exact P7 | exact P8 | exact P9 | exact P10 | exact P11 | exact P12 | exact P13 | exact P14 | exact P15 | exact P16 | exact P17 | exact P18 | exact P19 | exact P20 | exact P21 | exact P22 | exact P23)) | (apply Part.flat; simp only [List.cons_append, List.nil_append]) | (apply Part.nilc))) ?_)
  rintro v post H' ⟨rfl, rfl⟩ hH
  try simp only [List.cons_append, List.nil_append] at hH
  subst hH
  refine SPL_y (y_nil rfl) rfl ?_
  refine SPL_y (y_fa fld_96_0 rfl) rfl ?_
  refine SPL_one rfl (SP1_store Tryz.sizeOf3 rfl rfl rfl (by first | exact U0 | exact U1 | exact U2 | exact U3 | exact U4 | exact U5 | exact U6 | exact U7 | exact U8 | exact U9 | exact U10 | exact U11 | exact U12 | exact U13 | exact U14 | exact U15 | exact U16 | exact U17 | exact U18 | exact U19 | exact U20 | exact U21 | exact U22 | exact U23) (by rfl) ?_)
  refine SPL_nil ?_
  refine thenP_n ?_
  refine SP_seq ?_
  refine SP_region ?_
  refine SPL_y (y_move rfl) rfl ?_
  refine SPL_y (y_move rfl) rfl ?_
  refine SPL_y (y_move rfl) rfl ?_
  refine SPL_one rfl (SP1_call (modm_Mem b m s hm) Tryz.call66 rfl rfl (by repeat (first | exact Part.nil _ | (apply Part.cons; (first | exact P0 | exact P1 | exact P2 | exact P3 | exact P4 | exact P5 | exact P6 | exact P7 | exact P8 | exact P9 | exact P10 | exact P11 | exact P12 | exact P13 | exact P14 | exact P15 | exact P16 | exact P17 | exact P18 | exact P19 | exact P20 | exact P21 | exact P22 | exact P23)) | (apply Part.flat; simp only [List.cons_append, List.nil_append]) | (apply Part.nilc))) ?_)
  rintro v post H' ⟨rfl, rfl⟩ hH
  try simp only [List.cons_append, List.nil_append] at hH
  subst hH
  refine SPL_y (y_move rfl) rfl ?_
  refine SPL_y (y_ext rfl rfl) rfl ?_
  refine SPL_y (y_ext rfl rfl) rfl ?_
  refine SPL_y (y_nil rfl) rfl ?_
  refine SPL_y (y_fa fld_96_1 rfl) rfl ?_
  refine SPL_one rfl (SP1_store Tryz.sizeOf3 rfl rfl rfl (by first | exact U0 | exact U1 | exact U2 | exact U3 | exact U4 | exact U5 | exact U6 | exact U7 | exact U8 | exact U9 | exact U10 | exact U11 | exact U12 | exact U13 | exact U14 | exact U15 | exact U16 | exact U17 | exact U18 | exact U19 | exact U20 | exact U21 | exact U22 | exact U23) (by rfl) ?_)
  refine SPL_y (y_nil rfl) rfl ?_
  refine SPL_y (y_fa fld_96_2 rfl) rfl ?_
  refine SPL_one rfl (SP1_store Tryz.sizeOf3 rfl rfl rfl (by first | exact U0 | exact U1 | exact U2 | exact U3 | exact U4 | exact U5 | exact U6 | exact U7 | exact U8 | exact U9 | exact U10 | exact U11 | exact U12 | exact U13 | exact U14 | exact U15 | exact U16 | exact U17 | exact U18 | exact U19 | exact U20 | exact U21 | exact U22 | exact U23) (by rfl) ?_)
  refine SPL_nil ?_
  refine thenP_n ?_
  refine SP_seq ?_
  refine SP_region ?_
  refine SPL_y (y_move rfl) rfl ?_
  refine SPL_one rfl (SP1_call (modm_NTypes b m s hm) Tryz.call67 rfl rfl (by repeat (first | exact Part.nil _ | (apply Part.cons; (first | exact P0 | exact P1 | exact P2 | exact P3 | exact P4 | exact P5 | exact P6 | exact P7 | exact P8 | exact P9 | exact P10 | exact P11 | exact P12 | exact P13 | exact P14 | exact P15 | exact P16 | exact P17 | exact P18 | exact P19 | exact P20 | exact P21 | exact P22 | exact P23)) | (apply Part.flat; simp only [List.cons_append, List.nil_append]) | (apply Part.nilc))) ?_)
  rintro v post H' ⟨rfl, rfl⟩ hH
  try simp only [List.cons_append, List.nil_append] at hH
  subst hH
  refine SPL_y (y_assign rfl) rfl ?_
  refine SPL_nil ?_
  refine thenP_n ?_
  refine SP_seq ?_
  refine SP_region ?_
  refine SPL_y (y_move rfl) rfl ?_
  refine SPL_one rfl (SP1_call (modm_NFuncs b m s hm) Tryz.call68 rfl rfl (by repeat (first | exact Part.nil _ | (apply Part.cons; (first | exact P0 | exact P1 | exact P2 | exact P3 | exact P4 | exact P5 | exact P6 | exact P7 | exact P8 | exact P9 | exact P10 | exact P11 | exact P12 | exact P13 | exact P14 | exact P15 | exact P16 | exact P17 | exact P18 | exact P19 | exact P20 | exact P21 | exact P22 | exact P23)) | (apply Part.flat; simp only [List.cons_append, List.nil_append]) | (apply Part.nilc))) ?_)
  rintro v post H' ⟨rfl, rfl⟩ hH
  try simp only [List.cons_append, List.nil_append] at hH
  subst hH
  refine SPL_y (y_assign rfl) rfl ?_
  refine SPL_nil ?_
  refine thenP_n ?_
  refine SP_seq ?_
  refine SP_region ?_
  refine SPL_y (y_move rfl) rfl ?_
  refine SPL_y (y_nil rfl) rfl ?_
  refine SPL_y (y_fa fld_96_0 rfl) rfl ?_
  refine SPL_y (y_load Tryz.isAgg3 rfl (by repeat (first | exact Cell.head rfl | apply Cell.tail))) rfl ?_
  refine SPL_y (y_move rfl) rfl ?_
  refine SPL_y (y_addE rfl rfl (by omega) (show _ = (((m.imports.length + m.funcs.length) : Nat) : Int) by omega)) rfl ?_
  refine SPL_one rfl (SP1_make el_73 rfl (by omega) rfl ?_)
  intro b46
  refine SPL_y (y_assign rfl) rfl ?_
  refine SPL_nil ?_
  refine thenP_n ?_
  refine SP_seq ?_
  refine SP_seq ?_
  rw [flat_rep]
  refine SP_region ?_
  refine SPL_y (y_move rfl) rfl ?_
  refine SPL_y (y_len_l Tryz.underlying73 rfl) rfl ?_
  refine SPL_y (y_move rfl) rfl ?_
  refine SPL_nil ?_
  refine thenP_n ?_
  refine SP_block ?_
  refine SP_loop (G := Nat × List Fun × Option Addr × Nat × Seg × Seg × List Value × List Int) (fun g => (m.imports.length + m.funcs.length) - g.1) (fun g => [(0, .pointer (some ⟨pb, 0, none⟩)), (1, .pointer (some ⟨b, 0, none⟩)), (7, I m.params.length), (8, I m.funcs.length), (9, .slice (some ⟨b46, 0, none⟩) (m.imports.length + m.funcs.length) (m.imports.length + m.funcs.length)), (48, I ((m.imports.length + m.funcs.length) : Nat)), (49, I g.1)]) (fun g => [blk pb 96 [I m.imports.length, I m.min, I m.max, I 0, .slice g.2.2.1 g.1 g.2.2.2.1], g.2.2.2.2.1, g.2.2.2.2.2.1, blk b46 3 (g.2.2.2.2.2.2.2.map I), s]) (fun g => (g.1 ≤ (m.imports.length + m.funcs.length) ∧ g.2.1.length = g.1 ∧ reads m (m.imports.length + m.funcs.length) [] 0 = reads m ((m.imports.length + m.funcs.length) - g.1) g.2.1 g.1) ∧ Arr 108 4 g.2.2.1 g.1 g.2.2.2.1 g.2.2.2.2.2.2.1 g.2.2.2.2.1 ∧ Funs g.2.1 g.2.2.2.2.2.2.1 g.2.2.2.2.2.1 ∧ g.2.2.2.2.2.2.2.length = (m.imports.length + m.funcs.length) ∧ (∀ i, m.imports.length ≤ i → i < g.1 → g.2.2.2.2.2.2.2.getD i 0 = ((codeOf m i).length : Int)) ∧ (∀ u, u ∈ g.2.1 → FunOk u)) ((0, [], none, 0, [], [], [], List.replicate (m.imports.length + m.funcs.length) 0)) (⟨⟨Nat.zero_le _, rfl, rfl⟩, Arr.nil _ _, ⟨rfl, rfl⟩, by simp, fun i _ h => by simp at h, fun u hu => by simp at hu⟩) (by repeat (first | exact Sub.nil _ | refine Sub.cons rfl ?_)) (by repeat (first | exact Part.nil _ | (apply Part.cons; (first | exact P0 | exact P1 | exact P2 | exact P3 | exact P4 | exact P5 | exact P6 | exact P7 | exact P8 | exact P9 | exact P10 | exact P11 | exact P12 | exact P13 | exact P14 | exact P15 | exact P16 | exact P17 | exact P18 | exact P19 | exact P20 | exact P21 | exact P22 | exact P23)) | (apply Part.flat; simp only [List.cons_append, List.nil_append]) | (apply Part.nilc))) ?_
  rintro ⟨f, acc, fa, fc, sf, sc, fcs, sz⟩ ⟨⟨hf, hal, hrd⟩, hfr, hfs, hszl, hsz, hbd⟩
  dsimp only at hf hal hrd hfr hfs hszl hsz hbd ⊢
  refine SP_seq ?_
  refine SP_region ?_
  refine SPL_if (y_lss rfl rfl) rfl ?_ ?_
  · intro h9_0
    refine SPL_nil ?_
    refine thenP_n ?_
    refine SP_seq ?_
    refine SP_cond_t rfl ?_
    refine SP_skip ?_
    refine thenP_n ?_
    refine SP_seq ?_
    refine SP_block ?_
    refine SP_seq ?_
    refine SP_region ?_
    refine SPL_y (y_move rfl) rfl ?_
    refine SPL_y (y_assign rfl) rfl ?_
    refine SPL_nil ?_
    refine thenP_n ?_
    refine SP_seq ?_
    refine SP_region ?_
    refine SPL_y (y_move rfl) rfl ?_
    refine SPL_y (y_move rfl) rfl ?_
    refine SPL_one rfl (SP1_call (modm_Import b m s f hm) Tryz.call69 rfl rfl (by repeat (first | exact Part.nil _ | (apply Part.cons; (first | exact P0 | exact P1 | exact P2 | exact P3 | exact P4 | exact P5 | exact P6 | exact P7 | exact P8 | exact P9 | exact P10 | exact P11 | exact P12 | exact P13 | exact P14 | exact P15 | exact P16 | exact P17 | exact P18 | exact P19 | exact P20 | exact P21 | exact P22 | exact P23)) | (apply Part.flat; simp only [List.cons_append, List.nil_append]) | (apply Part.nilc))) ?_)
    rintro v post H' ⟨rfl, rfl⟩ hH
    try simp only [List.cons_append, List.nil_append] at hH
    subst hH
    refine SPL_y (y_build B108 rfl rfl (by simp only [fillL, List.foldl_cons, List.foldl_nil, List.set_cons_zero, List.set_cons_succ]; exact rfl)) rfl ?_
    refine SPL_one rfl (SP1_alloc Tryz.zeroValue108 rfl rfl ?_)
    intro b12
    refine SPL_y (y_assign rfl) rfl ?_
    refine SPL_one rfl (SP1_storeAll Tryz.sizeOf108 rfl rfl rfl rfl rfl (by first | exact U0 | exact U1 | exact U2 | exact U3 | exact U4 | exact U5 | exact U6 | exact U7 | exact U8 | exact U9 | exact U10 | exact U11 | exact U12 | exact U13 | exact U14 | exact U15 | exact U16 | exact U17 | exact U18 | exact U19 | exact U20 | exact U21 | exact U22 | exact U23) (by rfl) ?_)
    refine SPL_nil ?_
    refine thenP_n ?_
    refine SP_seq ?_
    refine SP_seq ?_
    refine SP_region ?_
    refine SPL_y (y_move rfl) rfl ?_
    refine SPL_y (y_move rfl) rfl ?_
    refine SPL_y (y_nil rfl) rfl ?_
    refine SPL_y (y_fa fld_96_0 rfl) rfl ?_
    refine SPL_y (y_load Tryz.isAgg3 rfl (by repeat (first | exact Cell.head rfl | apply Cell.tail))) rfl ?_
    refine SPL_ifn (y_geq rfl rfl) rfl ?_ ?_
    · intro h12_5
      refine SPL_nil ?_
      refine thenP_n ?_
      refine SP_cond_f rfl ?_
      refine SP_skip ?_
      refine thenP_n ?_
      refine SP_seq ?_
      refine SP_seq ?_
      have hty : tyAt m f = m.imq f := by unfold tyAt; rw [if_pos (by omega)]
      have hfa : funAt m f = ⟨(m.type (m.imq f)).1, (m.type (m.imq f)).2, [], []⟩ := by unfold funAt; rw [hty, if_pos (by omega)]
      refine SP_region ?_
      refine SPL_y (y_move rfl) rfl ?_
      refine SPL_y (y_move rfl) rfl ?_
      refine SPL_if (y_geq rfl rfl) rfl ?_ ?_
      · intro h14_2
        refine SPL_nil ?_
        refine thenP_n ?_
        refine SP_cond_t rfl ?_
        refine SP_seq ?_
        refine SP_region ?_
        refine SPL_y (y_move rfl) rfl ?_
        refine SPL_y (y_assign rfl) rfl ?_
        refine SPL_y (y_assign rfl) rfl ?_
        refine SPL_y (y_assign rfl) rfl ?_
        refine SPL_nil ?_
        refine thenP_n ?_
        refine SP_ret ?_
        refine thenP_ret (inBlockP_ret (thenP_ret (thenP_ret (inBlockP_ret (thenP_ret (bodyP_ret (H' := [List.flatten [blk pb 96 [I m.imports.length, I m.min, I m.max, I 0, .slice fa f fc], sf, sc], s]) (Res3 rfl rfl rfl rfl) (by repeat (first | exact Part.nil _ | (apply Part.cons; (first | exact P0 | exact P1 | exact P2 | exact P3 | exact P4 | exact P5 | exact P6 | exact P7 | exact P8 | exact P9 | exact P10 | exact P11 | exact P12 | exact P13 | exact P14 | exact P15 | exact P16 | exact P17 | exact P18 | exact P19 | exact P20 | exact P21 | exact P22 | exact P23)) | (apply Part.flat; simp only [List.cons_append, List.nil_append]) | (apply Part.nilc))) ?_))))))
        have e : loadM m = (⟨m.imports.length, m.min, m.max, acc⟩, (f : Int), -1, 5) := by unfold loadM; dsimp only; rw [hrd, show (m.imports.length + m.funcs.length) - f = ((m.imports.length + m.funcs.length) - (f + 1)) + 1 by omega, reads, if_pos (by rw [hty]; omega)]
        rw [e]
        exact ⟨fa, _, rfl, rfl, isProg_intro hal hfr hfs⟩
      intro h14_2
      refine SPL_nil ?_
      refine thenP_n ?_
      refine SP_cond_f rfl ?_
      refine SP_skip ?_
      refine thenP_n ?_
      refine SP_seq ?_
      refine SP_region ?_
      refine SPL_y (y_move rfl) rfl ?_
      refine SPL_y (y_move rfl) rfl ?_
      refine SPL_one rfl (SP1_call (modm_Type b m s _ hm hrl) Tryz.call71 rfl rfl (by repeat (first | exact Part.nil _ | (apply Part.cons; (first | exact P0 | exact P1 | exact P2 | exact P3 | exact P4 | exact P5 | exact P6 | exact P7 | exact P8 | exact P9 | exact P10 | exact P11 | exact P12 | exact P13 | exact P14 | exact P15 | exact P16 | exact P17 | exact P18 | exact P19 | exact P20 | exact P21 | exact P22 | exact P23)) | (apply Part.flat; simp only [List.cons_append, List.nil_append]) | (apply Part.nilc))) ?_)
      rintro v post H' ⟨rfl, rfl⟩ hH
      try simp only [List.cons_append, List.nil_append] at hH
      subst hH
      refine SPL_y (y_move rfl) rfl ?_
      refine SPL_y (y_ext rfl rfl) rfl ?_
      refine SPL_y (y_ext rfl rfl) rfl ?_
      refine SPL_y (y_fa fld_108_0 rfl) rfl ?_
      refine SPL_one rfl (SP1_store Tryz.sizeOf9 rfl rfl rfl (by first | exact U0 | exact U1 | exact U2 | exact U3 | exact U4 | exact U5 | exact U6 | exact U7 | exact U8 | exact U9 | exact U10 | exact U11 | exact U12 | exact U13 | exact U14 | exact U15 | exact U16 | exact U17 | exact U18 | exact U19 | exact U20 | exact U21 | exact U22 | exact U23) (by rfl) ?_)
      refine SPL_y (y_fa fld_108_1 rfl) rfl ?_
      refine SPL_one rfl (SP1_store Tryz.sizeOf9 rfl rfl rfl (by first | exact U0 | exact U1 | exact U2 | exact U3 | exact U4 | exact U5 | exact U6 | exact U7 | exact U8 | exact U9 | exact U10 | exact U11 | exact U12 | exact U13 | exact U14 | exact U15 | exact U16 | exact U17 | exact U18 | exact U19 | exact U20 | exact U21 | exact U22 | exact U23) (by rfl) ?_)
      refine SPL_nil ?_
      refine thenP_n ?_
      refine SP_draw 7 [(0, 0), (1, 0), (2, 0), (3, 0), (4, 1), (5, 1), (6, 2), (7, 3), (8, 0), (9, 0), (10, 3)] mixed (by kernel_rfl) (fun _ _ _ _ _ h => h) (Part.refl _) ?_
      refine SPO_p rfl (y_move rfl) rfl ?_
      refine SPO_p rfl (y_move rfl) rfl ?_
      refine SPO_p rfl (y_nil rfl) rfl ?_
      refine SPO_p rfl (y_fa fld_96_4 rfl) rfl ?_
      refine SPO_h rfl (y_load Tryz.isAgg94 rfl (by repeat (first | exact Cell.head rfl | apply Cell.tail))) rfl ?_
      refine SPO_h rfl (y_loads Tryz.isAgg108 Tryz.sizeOf108 rfl rfl (by repeat (first | exact Cells.all _ | exact Cells.head rfl | apply Cells.tail))) rfl ?_
      refine SPO_a rfl rfl (SP1_slice1 el_94 rfl rfl rfl rfl rfl ?_)
      intro b96
      refine ⟨⟨_, (by repeat (first | exact Part.nil _ | (apply Part.cons; (first | exact P0 | exact P1 | exact P2 | exact P3 | exact P4 | exact P5 | exact P6 | exact P7 | exact P8 | exact P9 | exact P10 | exact P11 | exact P12 | exact P13 | exact P14 | exact P15 | exact P16 | exact P17 | exact P18 | exact P19 | exact P20 | exact P21 | exact P22 | exact P23)) | (apply Part.flat; simp only [List.cons_append, List.nil_append]) | (apply Part.nilc)))⟩, ?_⟩
      refine SPO_z (k := 0) rfl rfl (SP1_append el_94 (.inl Tryz.underlying94) rfl rfl hfr (by first | exact P0 | exact P1 | exact P2 | exact P3 | exact P4 | exact P5 | exact P6 | exact P7 | exact P8 | exact P9 | exact P10 | exact P11 | exact P12 | exact P13 | exact P14 | exact P15 | exact P16 | exact P17 | exact P18 | exact P19 | exact P20 | exact P21 | exact P22 | exact P23) (Src.of (by repeat (first | exact Cells.all _ | exact Cells.head rfl | apply Cells.tail)) (by rfl)) (by rfl) (by omega) rfl ?_)
      intro fa1 fc1 sf1 hfr1
      refine SPO_p rfl (y_nil rfl) rfl ?_
      refine SPO_p rfl (y_fa fld_96_4 rfl) rfl ?_
      refine SPO_z (k := 0) rfl rfl (SP1_store Tryz.sizeOf94 rfl rfl rfl (by first | exact U0 | exact U1 | exact U2 | exact U3 | exact U4 | exact U5 | exact U6 | exact U7 | exact U8 | exact U9 | exact U10 | exact U11 | exact U12 | exact U13 | exact U14 | exact U15 | exact U16 | exact U17 | exact U18 | exact U19 | exact U20 | exact U21 | exact U22 | exact U23) (by rfl) ?_)
      refine SPO_nil ?_
      refine inBlockP_n ?_
      refine thenP_n ?_
      refine SP_region ?_
      refine SPL_y (y_add rfl rfl (by omega)) rfl ?_
      refine SPL_y (y_move rfl) rfl ?_
      refine SPL_nil ?_
      refine thenP_n ?_
      exact Again.intro ((f + 1, acc ++ [⟨(m.type (m.imq f)).1, (m.type (m.imq f)).2, [], []⟩], fa1, fc1, sf1, List.flatten [sc, []], fcs ++ [S (m.type (m.imq f)).1, S (m.type (m.imq f)).2, S [], .slice none 0 0], sz)) (⟨⟨by dsimp only; omega, by simp [hal], by dsimp only; rw [hrd, show (m.imports.length + m.funcs.length) - f = ((m.imports.length + m.funcs.length) - (f + 1)) + 1 by omega, reads, if_neg (by rw [hty]; omega), hfa]⟩, hfr1, hfs.snoc (Arr.nil _ _), hszl, fun i h1 h2 => hsz i h1 (by dsimp only at h2; omega), fun x hx => by rcases List.mem_append.1 hx with h | h; exact hbd x h; simp at h; subst h; exact ⟨(type_ok ok _).1, (type_ok ok _).2, by simp⟩⟩) (by simp only []; omega) (by repeat (first | exact Sub.nil _ | refine Sub.cons rfl ?_)) (by repeat (first | exact Part.nil _ | (apply Part.cons; (first | exact P0 | exact P1 | exact P2 | exact P3 | exact P4 | exact P5 | exact P6 | exact P7 | exact P8 | exact P9 | exact P10 | exact P11 | exact P12 | exact P13 | exact P14 | exact P15 | exact P16 | exact P17 | exact P18 | exact P19 | exact P20 | exact P21 | exact P22 | exact P23)) | (apply Part.flat; simp only [List.cons_append, List.nil_append]) | (apply Part.nilc)))
    intro h12_5
    refine SPL_nil ?_
    refine thenP_n ?_
    refine SP_cond_t rfl ?_
    obtain ⟨fn, hfn1, hfn2, hfe, hco⟩ := func_at (m := m) (f := f) (by omega) (by omega)
    have hfnn := hfn fn hfn2
    refine SP_region ?_
    refine SPL_y (y_move rfl) rfl ?_
    refine SPL_y (y_move rfl) rfl ?_
    refine SPL_y (y_move rfl) rfl ?_
    refine SPL_y (y_move rfl) rfl ?_
    refine SPL_y (y_move rfl) rfl ?_
    refine SPL_y (y_nil rfl) rfl ?_
    refine SPL_y (y_fa fld_96_0 rfl) rfl ?_
    refine SPL_y (y_load Tryz.isAgg3 rfl (by repeat (first | exact Cell.head rfl | apply Cell.tail))) rfl ?_
    refine SPL_y (y_sub rfl rfl (by omega)) rfl ?_
    refine SPL_one rfl (SP1_call (modm_Func b m s ((f : Int) - m.imports.length) hm) Tryz.call70 rfl rfl (by repeat (first | exact Part.nil _ | (apply Part.cons; (first | exact P0 | exact P1 | exact P2 | exact P3 | exact P4 | exact P5 | exact P6 | exact P7 | exact P8 | exact P9 | exact P10 | exact P11 | exact P12 | exact P13 | exact P14 | exact P15 | exact P16 | exact P17 | exact P18 | exact P19 | exact P20 | exact P21 | exact P22 | exact P23)) | (apply Part.flat; simp only [List.cons_append, List.nil_append]) | (apply Part.nilc))) ?_)
    rintro v post H' ⟨rfl, rfl⟩ hH
    try simp only [List.cons_append, List.nil_append] at hH
    subst hH
    rw [hfe]
    dsimp only
    refine SPL_y (y_move rfl) rfl ?_
    refine SPL_y (y_ext rfl rfl) rfl ?_
    refine SPL_y (y_ext rfl rfl) rfl ?_
    refine SPL_y (y_ext rfl rfl) rfl ?_
    refine SPL_y (y_assign rfl) rfl ?_
    refine SPL_y (y_fa fld_108_2 rfl) rfl ?_
    refine SPL_one rfl (SP1_store Tryz.sizeOf9 rfl rfl rfl (by first | exact U0 | exact U1 | exact U2 | exact U3 | exact U4 | exact U5 | exact U6 | exact U7 | exact U8 | exact U9 | exact U10 | exact U11 | exact U12 | exact U13 | exact U14 | exact U15 | exact U16 | exact U17 | exact U18 | exact U19 | exact U20 | exact U21 | exact U22 | exact U23) (by rfl) ?_)
    refine SPL_y (y_ia Tryz.underlying73 Tryz.sizeOf3 rfl rfl (by omega)) rfl ?_
    refine SPL_one rfl (SP1_store Tryz.sizeOf3 rfl rfl rfl (by first | exact U0 | exact U1 | exact U2 | exact U3 | exact U4 | exact U5 | exact U6 | exact U7 | exact U8 | exact U9 | exact U10 | exact U11 | exact U12 | exact U13 | exact U14 | exact U15 | exact U16 | exact U17 | exact U18 | exact U19 | exact U20 | exact U21 | exact U22 | exact U23) (ble_of (by simp; omega)) ?_)
    rw [set_mapI]
    refine SPL_nil ?_
    refine thenP_n ?_
    refine SP_seq ?_
    refine SP_seq ?_
    have hty : tyAt m f = fn.typ := by unfold tyAt; rw [if_neg (by omega), hfe]
    have hfa : funAt m f = ⟨(m.type fn.typ).1, (m.type fn.typ).2, fn.locals, []⟩ := by unfold funAt; rw [hty, if_neg (by omega), hfe]
    refine SP_region ?_
    refine SPL_y (y_move rfl) rfl ?_
    refine SPL_y (y_move rfl) rfl ?_
    refine SPL_if (y_geq rfl rfl) rfl ?_ ?_
    · intro h14_2
      refine SPL_nil ?_
      refine thenP_n ?_
      refine SP_cond_t rfl ?_
      refine SP_seq ?_
      refine SP_region ?_
      refine SPL_y (y_move rfl) rfl ?_
      refine SPL_y (y_assign rfl) rfl ?_
      refine SPL_y (y_assign rfl) rfl ?_
      refine SPL_y (y_assign rfl) rfl ?_
      refine SPL_nil ?_
      refine thenP_n ?_
      refine SP_ret ?_
      refine thenP_ret (inBlockP_ret (thenP_ret (thenP_ret (inBlockP_ret (thenP_ret (bodyP_ret (H' := [List.flatten [blk pb 96 [I m.imports.length, I m.min, I m.max, I 0, .slice fa f fc], sf, sc], s]) (Res3 rfl rfl rfl rfl) (by repeat (first | exact Part.nil _ | (apply Part.cons; (first | exact P0 | exact P1 | exact P2 | exact P3 | exact P4 | exact P5 | exact P6 | exact P7 | exact P8 | exact P9 | exact P10 | exact P11 | exact P12 | exact P13 | exact P14 | exact P15 | exact P16 | exact P17 | exact P18 | exact P19 | exact P20 | exact P21 | exact P22 | exact P23)) | (apply Part.flat; simp only [List.cons_append, List.nil_append]) | (apply Part.nilc))) ?_))))))
      have e : loadM m = (⟨m.imports.length, m.min, m.max, acc⟩, (f : Int), -1, 5) := by unfold loadM; dsimp only; rw [hrd, show (m.imports.length + m.funcs.length) - f = ((m.imports.length + m.funcs.length) - (f + 1)) + 1 by omega, reads, if_pos (by rw [hty]; omega)]
      rw [e]
      exact ⟨fa, _, rfl, rfl, isProg_intro hal hfr hfs⟩
    intro h14_2
    refine SPL_nil ?_
    refine thenP_n ?_
    refine SP_cond_f rfl ?_
    refine SP_skip ?_
    refine thenP_n ?_
    refine SP_seq ?_
    refine SP_region ?_
    refine SPL_y (y_move rfl) rfl ?_
    refine SPL_y (y_move rfl) rfl ?_
    refine SPL_one rfl (SP1_call (modm_Type b m s _ hm hrl) Tryz.call71 rfl rfl (by repeat (first | exact Part.nil _ | (apply Part.cons; (first | exact P0 | exact P1 | exact P2 | exact P3 | exact P4 | exact P5 | exact P6 | exact P7 | exact P8 | exact P9 | exact P10 | exact P11 | exact P12 | exact P13 | exact P14 | exact P15 | exact P16 | exact P17 | exact P18 | exact P19 | exact P20 | exact P21 | exact P22 | exact P23)) | (apply Part.flat; simp only [List.cons_append, List.nil_append]) | (apply Part.nilc))) ?_)
    rintro v post H' ⟨rfl, rfl⟩ hH
    try simp only [List.cons_append, List.nil_append] at hH
    subst hH
    refine SPL_y (y_move rfl) rfl ?_
    refine SPL_y (y_ext rfl rfl) rfl ?_
    refine SPL_y (y_ext rfl rfl) rfl ?_
    refine SPL_y (y_fa fld_108_0 rfl) rfl ?_
    refine SPL_one rfl (SP1_store Tryz.sizeOf9 rfl rfl rfl (by first | exact U0 | exact U1 | exact U2 | exact U3 | exact U4 | exact U5 | exact U6 | exact U7 | exact U8 | exact U9 | exact U10 | exact U11 | exact U12 | exact U13 | exact U14 | exact U15 | exact U16 | exact U17 | exact U18 | exact U19 | exact U20 | exact U21 | exact U22 | exact U23) (by rfl) ?_)
    refine SPL_y (y_fa fld_108_1 rfl) rfl ?_
    refine SPL_one rfl (SP1_store Tryz.sizeOf9 rfl rfl rfl (by first | exact U0 | exact U1 | exact U2 | exact U3 | exact U4 | exact U5 | exact U6 | exact U7 | exact U8 | exact U9 | exact U10 | exact U11 | exact U12 | exact U13 | exact U14 | exact U15 | exact U16 | exact U17 | exact U18 | exact U19 | exact U20 | exact U21 | exact U22 | exact U23) (by rfl) ?_)
    refine SPL_nil ?_
    refine thenP_n ?_
    refine SP_draw 7 [(0, 0), (1, 0), (2, 0), (3, 0), (4, 1), (5, 1), (6, 2), (7, 3), (8, 0), (9, 0), (10, 3)] mixed (by kernel_rfl) (fun _ _ _ _ _ h => h) (Part.refl _) ?_
    refine SPO_p rfl (y_move rfl) rfl ?_
    refine SPO_p rfl (y_move rfl) rfl ?_
    refine SPO_p rfl (y_nil rfl) rfl ?_
    refine SPO_p rfl (y_fa fld_96_4 rfl) rfl ?_
    refine SPO_h rfl (y_load Tryz.isAgg94 rfl (by repeat (first | exact Cell.head rfl | apply Cell.tail))) rfl ?_
    refine SPO_h rfl (y_loads Tryz.isAgg108 Tryz.sizeOf108 rfl rfl (by repeat (first | exact Cells.all _ | exact Cells.head rfl | apply Cells.tail))) rfl ?_
    refine SPO_a rfl rfl (SP1_slice1 el_94 rfl rfl rfl rfl rfl ?_)
    intro b96
    refine ⟨⟨_, (by repeat (first | exact Part.nil _ | (apply Part.cons; (first | exact P0 | exact P1 | exact P2 | exact P3 | exact P4 | exact P5 | exact P6 | exact P7 | exact P8 | exact P9 | exact P10 | exact P11 | exact P12 | exact P13 | exact P14 | exact P15 | exact P16 | exact P17 | exact P18 | exact P19 | exact P20 | exact P21 | exact P22 | exact P23)) | (apply Part.flat; simp only [List.cons_append, List.nil_append]) | (apply Part.nilc)))⟩, ?_⟩
    refine SPO_z (k := 0) rfl rfl (SP1_append el_94 (.inl Tryz.underlying94) rfl rfl hfr (by first | exact P0 | exact P1 | exact P2 | exact P3 | exact P4 | exact P5 | exact P6 | exact P7 | exact P8 | exact P9 | exact P10 | exact P11 | exact P12 | exact P13 | exact P14 | exact P15 | exact P16 | exact P17 | exact P18 | exact P19 | exact P20 | exact P21 | exact P22 | exact P23) (Src.of (by repeat (first | exact Cells.all _ | exact Cells.head rfl | apply Cells.tail)) (by rfl)) (by rfl) (by omega) rfl ?_)
    intro fa1 fc1 sf1 hfr1
    refine SPO_p rfl (y_nil rfl) rfl ?_
    refine SPO_p rfl (y_fa fld_96_4 rfl) rfl ?_
    refine SPO_z (k := 0) rfl rfl (SP1_store Tryz.sizeOf94 rfl rfl rfl (by first | exact U0 | exact U1 | exact U2 | exact U3 | exact U4 | exact U5 | exact U6 | exact U7 | exact U8 | exact U9 | exact U10 | exact U11 | exact U12 | exact U13 | exact U14 | exact U15 | exact U16 | exact U17 | exact U18 | exact U19 | exact U20 | exact U21 | exact U22 | exact U23) (by rfl) ?_)
    refine SPO_nil ?_
    refine inBlockP_n ?_
    refine thenP_n ?_
    refine SP_region ?_
    refine SPL_y (y_add rfl rfl (by omega)) rfl ?_
    refine SPL_y (y_move rfl) rfl ?_
    refine SPL_nil ?_
    refine thenP_n ?_
    exact Again.intro ((f + 1, acc ++ [⟨(m.type fn.typ).1, (m.type fn.typ).2, fn.locals, []⟩], fa1, fc1, sf1, List.flatten [sc, []], fcs ++ [S (m.type fn.typ).1, S (m.type fn.typ).2, S fn.locals, .slice none 0 0], (sz.set f ((fn.code.length : Nat) : Int)))) (⟨⟨by dsimp only; omega, by simp [hal], by dsimp only; rw [hrd, show (m.imports.length + m.funcs.length) - f = ((m.imports.length + m.funcs.length) - (f + 1)) + 1 by omega, reads, if_neg (by rw [hty]; omega), hfa]⟩, hfr1, hfs.snoc (Arr.nil _ _), by simp [hszl], fun i h1 h2 => by dsimp only at h2 ⊢; by_cases e : i = f; subst e; rw [List.getD_eq_getElem?_getD, List.getElem?_set_self (by omega), hco]; rfl; rw [List.getD_eq_getElem?_getD, List.getElem?_set_ne (by omega), ← List.getD_eq_getElem?_getD]; exact hsz i h1 (by omega), fun x hx => by rcases List.mem_append.1 hx with h | h; exact hbd x h; simp at h; subst h; exact ⟨(type_ok ok _).1, (type_ok ok _).2, hfnn.2.2.1⟩⟩) (by simp only []; omega) (by repeat (first | exact Sub.nil _ | refine Sub.cons rfl ?_)) (by repeat (first | exact Part.nil _ | (apply Part.cons; (first | exact P0 | exact P1 | exact P2 | exact P3 | exact P4 | exact P5 | exact P6 | exact P7 | exact P8 | exact P9 | exact P10 | exact P11 | exact P12 | exact P13 | exact P14 | exact P15 | exact P16 | exact P17 | exact P18 | exact P19 | exact P20 | exact P21 | exact P22 | exact P23)) | (apply Part.flat; simp only [List.cons_append, List.nil_append]) | (apply Part.nilc)))
  intro h9_0
  refine SPL_nil ?_
  refine thenP_n ?_
  refine SP_seq ?_
  refine SP_cond_f rfl ?_
  refine SP_exit ?_
  refine thenP_exit ?_
  refine thenP_exit ?_
  refine inBlockP_hit ?_
  refine thenP_n ?_
  refine SP_seq ?_
  refine SP_seq ?_
  obtain rfl : f = (m.imports.length + m.funcs.length) := by omega
  obtain ⟨R, hR⟩ : ∃ x, acc = x := ⟨_, rfl⟩
  have hrd2 : reads m (m.imports.length + m.funcs.length) [] 0 = (R, none) := by rw [hrd, Nat.sub_self, hR]; rfl
  refine SP_region ?_
  refine SPL_y (y_move rfl) rfl ?_
  refine SPL_y (y_nil rfl) rfl ?_
  refine SPL_y (y_fa fld_96_0 rfl) rfl ?_
  refine SPL_y (y_load Tryz.isAgg3 rfl (by repeat (first | exact Cell.head rfl | apply Cell.tail))) rfl ?_
  refine SPL_y (y_assign rfl) rfl ?_
  refine SPL_nil ?_
  refine thenP_n ?_
  refine SP_block ?_
  refine SP_loop (G := Nat × List Fun × Option Addr × Nat × Seg × Seg × List Value) (fun g => (m.imports.length + m.funcs.length) - g.1) (fun g => [(0, .pointer (some ⟨pb, 0, none⟩)), (1, .pointer (some ⟨b, 0, none⟩)), (9, .slice (some ⟨b46, 0, none⟩) (m.imports.length + m.funcs.length) (m.imports.length + m.funcs.length)), (13, I g.1)]) (fun g => [blk pb 96 [I m.imports.length, I m.min, I m.max, I 0, .slice g.2.2.1 (m.imports.length + m.funcs.length) g.2.2.2.1], g.2.2.2.2.1, g.2.2.2.2.2.1, blk b46 3 (sz.map I), s]) (fun g => (m.imports.length ≤ g.1 ∧ g.1 ≤ (m.imports.length + m.funcs.length) ∧ g.2.1.length = (m.imports.length + m.funcs.length) ∧ bodies m m.funcs.length R m.imports.length = bodies m ((m.imports.length + m.funcs.length) - g.1) g.2.1 g.1) ∧ Arr 108 4 g.2.2.1 (m.imports.length + m.funcs.length) g.2.2.2.1 g.2.2.2.2.2.2 g.2.2.2.2.1 ∧ Funs g.2.1 g.2.2.2.2.2.2 g.2.2.2.2.2.1 ∧ (∀ u, u ∈ g.2.1 → FunOk u)) ((m.imports.length, acc, fa, fc, sf, sc, fcs)) (⟨⟨Nat.le_refl _, Nat.le_add_right _ _, hal, by dsimp only; rw [hR, Nat.add_sub_cancel_left]⟩, hfr, hfs, hbd⟩) (by repeat (first | exact Sub.nil _ | refine Sub.cons rfl ?_)) (by repeat (first | exact Part.nil _ | (apply Part.cons; (first | exact P0 | exact P1 | exact P2 | exact P3 | exact P4 | exact P5 | exact P6 | exact P7 | exact P8 | exact P9 | exact P10 | exact P11 | exact P12 | exact P13 | exact P14 | exact P15 | exact P16 | exact P17 | exact P18 | exact P19 | exact P20 | exact P21 | exact P22 | exact P23)) | (apply Part.flat; simp only [List.cons_append, List.nil_append]) | (apply Part.nilc))) ?_
  rintro ⟨f, fs, fa, fc, sf, sc, fcs⟩ ⟨⟨hf1, hf2, hfl, hbo⟩, hfr, hfs, hbd⟩
  dsimp only at hf1 hf2 hfl hbo hfr hfs hbd ⊢
  refine SP_seq ?_
  refine SP_seq ?_
  refine SP_region ?_
  refine SPL_y (y_move rfl) rfl ?_
  refine SPL_y (y_move rfl) rfl ?_
  refine SPL_y (y_nil rfl) rfl ?_
  refine SPL_y (y_fa fld_96_4 rfl) rfl ?_
  refine SPL_y (y_load Tryz.isAgg94 rfl (by repeat (first | exact Cell.head rfl | apply Cell.tail))) rfl ?_
  refine SPL_y (y_len_l Tryz.underlying94 rfl) rfl ?_
  refine SPL_ifn (y_lss rfl rfl) rfl ?_ ?_
  · intro h20_6
    refine SPL_nil ?_
    refine thenP_n ?_
    refine SP_cond_f rfl ?_
    refine SP_exit ?_
    refine thenP_exit ?_
    refine thenP_exit ?_
    refine inBlockP_hit ?_
    refine thenP_n ?_
    refine SP_seq ?_
    refine SP_region ?_
    refine SPL_y (y_assign rfl) rfl ?_
    refine SPL_y (y_assign rfl) rfl ?_
    refine SPL_y (y_assign rfl) rfl ?_
    refine SPL_nil ?_
    refine thenP_n ?_
    refine SP_ret ?_
    refine bodyP_ret (H' := [List.flatten [blk pb 96 [I m.imports.length, I m.min, I m.max, I 0, .slice fa (m.imports.length + m.funcs.length) fc], sf, sc], s]) (Res3 rfl rfl rfl rfl) (by repeat (first | exact Part.nil _ | (apply Part.cons; (first | exact P0 | exact P1 | exact P2 | exact P3 | exact P4 | exact P5 | exact P6 | exact P7 | exact P8 | exact P9 | exact P10 | exact P11 | exact P12 | exact P13 | exact P14 | exact P15 | exact P16 | exact P17 | exact P18 | exact P19 | exact P20 | exact P21 | exact P22 | exact P23)) | (apply Part.flat; simp only [List.cons_append, List.nil_append]) | (apply Part.nilc))) ?_
    obtain rfl : f = (m.imports.length + m.funcs.length) := by omega
    have e : loadM m = (⟨m.imports.length, m.min, m.max, fs⟩, 0, 0, 0) := by unfold loadM; dsimp only; rw [hrd2]; dsimp only; rw [hbo, Nat.sub_self, bodies]; rfl
    rw [e]
    exact ⟨_, _, rfl, rfl, isProg_intro hfl hfr hfs⟩
  intro h20_6
  refine SPL_nil ?_
  refine thenP_n ?_
  refine SP_cond_t rfl ?_
  refine SP_skip ?_
  refine thenP_n ?_
  refine SP_seq ?_
  refine SP_block ?_
  refine SP_seq ?_
  obtain ⟨bf, spf, rfl, hfc, hspf, rfl⟩ := hfr.row (by omega)
  obtain ⟨fn, hfn1, hfn2, hfe, hco⟩ := func_at (m := m) (f := f) hf1 (by omega)
  obtain ⟨u, hfu⟩ : ∃ u, fs[f]? = some u := ⟨_, List.getElem?_eq_getElem (by omega)⟩
  have hfnn := hfn fn hfn2
  have hszf : sz[f]? = some ((fn.code.length : Nat) : Int) := by
    have h := hsz f hf1 (by omega)
    rw [List.getD_eq_getElem?_getD, List.getElem?_eq_getElem (show f < sz.length by omega), hco] at h
    rw [List.getElem?_eq_getElem (show f < sz.length by omega)]; simpa using h
  have hfo : FunOk u := hbd u (List.mem_of_getElem? hfu)
  refine SP_region ?_
  refine SPL_y (y_move rfl) rfl ?_
  refine SPL_y (y_move rfl) rfl ?_
  refine SPL_y (y_nil rfl) rfl ?_
  refine SPL_y (y_fa fld_96_4 rfl) rfl ?_
  refine SPL_y (y_load Tryz.isAgg94 rfl (by repeat (first | exact Cell.head rfl | apply Cell.tail))) rfl ?_
  refine SPL_y (y_move rfl) rfl ?_
  refine SPL_y (y_ia Tryz.underlying94 Tryz.sizeOf108 rfl rfl (by omega)) rfl ?_
  refine SPL_one rfl (SP1_call (prep_newChecker pb bf f (⟨m.imports.length, m.min, m.max, fs⟩ : Prog) 0 _ u (isProg_intro (P := (⟨m.imports.length, m.min, m.max, fs⟩ : Prog)) hfl hfr hfs) (fun x hx => by have := hbd x hx; unfold FunOk at this; omega) hfu) Tryz.call78 rfl rfl (by repeat (first | exact Part.nil _ | (apply Part.cons; (first | exact P0 | exact P1 | exact P2 | exact P3 | exact P4 | exact P5 | exact P6 | exact P7 | exact P8 | exact P9 | exact P10 | exact P11 | exact P12 | exact P13 | exact P14 | exact P15 | exact P16 | exact P17 | exact P18 | exact P19 | exact P20 | exact P21 | exact P22 | exact P23)) | (apply Part.flat; simp only [List.cons_append, List.nil_append]) | (apply Part.nilc))) ?_)
  rintro v post H' ⟨k, kb, ub, mb, oa, s0, rfl, rfl, hm0⟩ hH
  simp only [isOn, List.cons_append, List.nil_append] at hH
  try simp only [List.cons_append, List.nil_append] at hH
  subst hH
  refine SPL_y (y_assign rfl) rfl ?_
  refine SPL_nil ?_
  refine thenP_n ?_
  refine SP_seq ?_
  refine SP_seq ?_
  refine SP_region ?_
  refine SPL_y (y_move rfl) rfl ?_
  refine SPL_y (y_move rfl) rfl ?_
  refine SPL_y (y_ia Tryz.underlying73 Tryz.sizeOf3 rfl rfl (by omega)) rfl ?_
  refine SPL_y (y_load Tryz.isAgg3 rfl (by repeat (first | exact Cell.head (by rw [Int.toNat_natCast, Nat.zero_add, Nat.mul_one, List.getElem?_map, hszf]; rfl) | apply Cell.tail))) rfl ?_
  refine SPL_y (y_move rfl) rfl ?_
  refine SPL_nil ?_
  refine thenP_n ?_
  refine SP_block ?_
  refine SP_loop (G := Nat × Chk × Option Addr × Seg) (fun g => fn.code.length - g.1) (fun g => [(0, .pointer (some ⟨pb, 0, none⟩)), (1, .pointer (some ⟨b, 0, none⟩)), (9, .slice (some ⟨b46, 0, none⟩) (m.imports.length + m.funcs.length) (m.imports.length + m.funcs.length)), (13, I f), (14, .pointer (some ⟨k, 0, none⟩)), (125, I fn.code.length), (126, I g.1)]) (fun g => [g.2.2.2, List.flatten [blk pb 96 [I m.imports.length, I m.min, I m.max, I 0, .slice (some ⟨bf, 0, none⟩) (m.imports.length + m.funcs.length) fc], blk bf 108 (fcs ++ spf), sc], mp mb (onE k kb ub), blk kb 185 [.pointer (some ⟨k, 0, none⟩)], blk ub 105 [.pointer (some ⟨bf, 0 + ((f : Nat) : Int).toNat * 4, none⟩)], blk b46 3 (sz.map I), s]) (fun g => g.1 ≤ fn.code.length ∧ runOne fs u fn.code (Chk.start u) 0 = runOne fs u (fn.code.drop g.1) g.2.1 g.1 ∧ isChk k (.pointer (some ⟨pb, 0, none⟩)) (.pointer (some ⟨bf, 0 + ((f : Nat) : Int).toNat * 4, none⟩)) (.map (some mb)) g.2.2.1 g.2.1 g.2.2.2 ∧ (g.1 < fn.code.length → ∃ o, CI g.2.1 o g.1 ∧ nest (fn.code.drop g.1) o = 0)) ((0, Chk.start u, oa, s0)) (⟨Nat.zero_le _, rfl, hm0, fun _ => ⟨[], CI.start u hfo.2.1, hfnn.2.2.2.2.2⟩⟩) (by repeat (first | exact Sub.nil _ | refine Sub.cons rfl ?_)) (by repeat (first | exact Part.nil _ | (apply Part.cons; (first | exact P0 | exact P1 | exact P2 | exact P3 | exact P4 | exact P5 | exact P6 | exact P7 | exact P8 | exact P9 | exact P10 | exact P11 | exact P12 | exact P13 | exact P14 | exact P15 | exact P16 | exact P17 | exact P18 | exact P19 | exact P20 | exact P21 | exact P22 | exact P23)) | (apply Part.flat; simp only [List.cons_append, List.nil_append]) | (apply Part.nilc))) ?_
  rintro ⟨i, C, oa, sj⟩ ⟨hi, hro, hmj, hci⟩
  dsimp only at hi hro hmj hci ⊢
  refine SP_seq ?_
  refine SP_region ?_
  refine SPL_ifn (y_lss rfl rfl) rfl ?_ ?_
  · intro h24_0
    refine SPL_nil ?_
    refine thenP_n ?_
    refine SP_seq ?_
    refine SP_cond_f rfl ?_
    refine SP_exit ?_
    refine thenP_exit ?_
    refine thenP_exit ?_
    refine inBlockP_hit ?_
    refine thenP_n ?_
    obtain rfl : i = fn.code.length := by omega
    refine SP_open (pre := [blk pb 96 [I m.imports.length, I m.min, I m.max, I 0, .slice (some ⟨bf, 0, none⟩) (m.imports.length + m.funcs.length) fc], blk bf 108 (fcs ++ spf), sc]) (by first | exact P0 | exact P1 | exact P2 | exact P3 | exact P4 | exact P5 | exact P6 | exact P7 | exact P8 | exact P9 | exact P10 | exact P11 | exact P12 | exact P13 | exact P14 | exact P15 | exact P16 | exact P17 | exact P18 | exact P19 | exact P20 | exact P21 | exact P22 | exact P23) ?_
    simp only [List.cons_append, List.nil_append]
    obtain ⟨ta, tc, oc, ca, cc, st, so, sb, cd, cs, rfl, hst, hop, hob, hcd⟩ := hmj
    refine SP_open (pre := [_, _, _, _, _]) (by first | exact P0 | exact P1 | exact P2 | exact P3 | exact P4 | exact P5 | exact P6 | exact P7 | exact P8 | exact P9 | exact P10 | exact P11 | exact P12 | exact P13 | exact P14 | exact P15 | exact P16 | exact P17 | exact P18 | exact P19 | exact P20 | exact P21 | exact P22 | exact P23) ?_
    simp only [List.cons_append, List.nil_append]
    have hfeq : fs[f]'(by omega) = u := by rw [List.getElem?_eq_getElem (by omega)] at hfu; simpa using hfu
    obtain ⟨fl, fka, fkc, fr, f1, fsv, f2, rfl, hfl4, rfl, hfk, hfput⟩ := hfs.get (i := f) (by omega)
    refine SP_open (pre := [f1, fsv, f2]) (by first | exact P0 | exact P1 | exact P2 | exact P3 | exact P4 | exact P5 | exact P6 | exact P7 | exact P8 | exact P9 | exact P10 | exact P11 | exact P12 | exact P13 | exact P14 | exact P15 | exact P16 | exact P17 | exact P18 | exact P19 | exact P20 | exact P21 | exact P22 | exact P23) ?_
    simp only [List.cons_append, List.nil_append]
    simp only [hfeq] at hfr hfput ⊢
    have hrr : runOne fs u fn.code (Chk.start u) 0 = (C, 0, 0) := by rw [hro, List.drop_eq_nil_of_le (Nat.le_refl _)]; rfl
    refine SP_draw 11 [(0, 0), (1, 0), (2, 0), (4, 0), (5, 0), (6, 0), (7, 0), (3, 1), (8, 1), (9, 0), (10, 0), (11, 3)] mixed (by kernel_rfl) (fun _ _ _ _ _ h => h) (Part.refl _) ?_
    refine SPO_p rfl (y_move rfl) rfl ?_
    refine SPO_p rfl (y_nil rfl) rfl ?_
    refine SPO_p rfl (y_fa fld_96_4 rfl) rfl ?_
    refine SPO_p rfl (y_move rfl) rfl ?_
    refine SPO_p rfl (y_move rfl) rfl ?_
    refine SPO_p rfl (y_nil rfl) rfl ?_
    refine SPO_p rfl (y_fa fld_191_4 rfl) rfl ?_
    refine SPO_h rfl (y_load Tryz.isAgg94 rfl (by repeat (first | exact Cell.head rfl | apply Cell.tail))) rfl ?_
    refine SPO_h rfl (y_load Tryz.isAgg106 rfl (by repeat (first | exact Cell.head rfl | apply Cell.tail))) rfl ?_
    refine SPO_p rfl (y_ia Tryz.underlying94 Tryz.sizeOf108 rfl rfl (by omega)) rfl ?_
    refine SPO_p rfl (y_fa fld_108_3 rfl) rfl ?_
    refine SPO_z (k := 0) rfl rfl (SP1_store Tryz.sizeOf106 rfl rfl rfl (by first | exact U0 | exact U1 | exact U2 | exact U3 | exact U4 | exact U5 | exact U6 | exact U7 | exact U8 | exact U9 | exact U10 | exact U11 | exact U12 | exact U13 | exact U14 | exact U15 | exact U16 | exact U17 | exact U18 | exact U19 | exact U20 | exact U21 | exact U22 | exact U23) (ble_of (by have := hfr.1; simp at this ⊢; omega)) ?_)
    rw [mid_set (q := 3) (i := f) rfl hfl4 (by simp)]
    simp only [List.set_cons_succ, List.set_cons_zero]
    refine SPO_nil ?_
    refine inBlockP_n ?_
    refine thenP_n ?_
    refine SP_region ?_
    refine SPL_y (y_move rfl) rfl ?_
    refine SPL_y (y_add rfl rfl (by omega)) rfl ?_
    refine SPL_y (y_assign rfl) rfl ?_
    refine SPL_nil ?_
    refine thenP_n ?_
    exact Again.intro ((f + 1, fs.set f { u with code := C.code }, some ⟨bf, 0, none⟩, fc, blk bf 108 (fl ++ [S u.params, S u.results, S u.locals, .slice ca C.code.length cc] ++ fr ++ spf), List.flatten [f1, cd, f2], fl ++ [S u.params, S u.results, S u.locals, .slice ca C.code.length cc] ++ fr)) (⟨⟨by dsimp only; omega, by dsimp only; omega, by simp [hfl], by dsimp only; rw [hbo, show (m.imports.length + m.funcs.length) - f = ((m.imports.length + m.funcs.length) - (f + 1)) + 1 by omega, bodies, hfu]; dsimp only; rw [hco, hrr, if_neg (by simp)]⟩, hfr.mid hfc hspf rfl, hfput C.code ca cc cd hcd, set_ok hbd hfo⟩) (by simp only []; omega) (by repeat (first | exact Sub.nil _ | refine Sub.cons rfl ?_)) (by repeat (first | exact Part.nil _ | (apply Part.cons; (first | exact P0 | exact P1 | exact P2 | exact P3 | exact P4 | exact P5 | exact P6 | exact P7 | exact P8 | exact P9 | exact P10 | exact P11 | exact P12 | exact P13 | exact P14 | exact P15 | exact P16 | exact P17 | exact P18 | exact P19 | exact P20 | exact P21 | exact P22 | exact P23)) | (apply Part.flat; simp only [List.cons_append, List.nil_append]) | (apply Part.nilc)))
  intro h24_0
  refine SPL_nil ?_
  refine thenP_n ?_
  refine SP_seq ?_
  refine SP_cond_t rfl ?_
  refine SP_skip ?_
  refine thenP_n ?_
  refine SP_seq ?_
  refine SP_block ?_
  refine SP_seq ?_
  refine SP_region ?_
  refine SPL_y (y_move rfl) rfl ?_
  refine SPL_y (y_assign rfl) rfl ?_
  refine SPL_nil ?_
  refine thenP_n ?_
  refine SP_seq ?_
  refine SP_open (pre := [blk pb 96 [I m.imports.length, I m.min, I m.max, I 0, .slice (some ⟨bf, 0, none⟩) (m.imports.length + m.funcs.length) fc], blk bf 108 (fcs ++ spf), sc]) (by first | exact P0 | exact P1 | exact P2 | exact P3 | exact P4 | exact P5 | exact P6 | exact P7 | exact P8 | exact P9 | exact P10 | exact P11 | exact P12 | exact P13 | exact P14 | exact P15 | exact P16 | exact P17 | exact P18 | exact P19 | exact P20 | exact P21 | exact P22 | exact P23) ?_
  simp only [List.cons_append, List.nil_append]
  have hil : i < fn.code.length := by omega
  obtain ⟨o, hCI, hno⟩ := hci hil
  rw [List.drop_eq_getElem_cons hil] at hno
  have hwl := nest_well hno
  have h4 : fn.code[i].op = 4 → ∃ a, C.top.alt = some a ∧ a < C.code.length := fun h4 => hCI.top4 (nest_four hno h4)
  refine SP_region ?_
  refine SPL_y (y_move rfl) rfl ?_
  refine SPL_y (y_move rfl) rfl ?_
  refine SPL_y (y_move rfl) rfl ?_
  refine SPL_y (y_nil rfl) rfl ?_
  refine SPL_y (y_fa fld_96_0 rfl) rfl ?_
  refine SPL_y (y_load Tryz.isAgg3 rfl (by repeat (first | exact Cell.head rfl | apply Cell.tail))) rfl ?_
  refine SPL_y (y_sub rfl rfl (by omega)) rfl ?_
  refine SPL_y (y_move rfl) rfl ?_
  refine SPL_one rfl (SP1_call (modm_At b m s ((f : Int) - m.imports.length) i hm) Tryz.call72 rfl rfl (by repeat (first | exact Part.nil _ | (apply Part.cons; (first | exact P0 | exact P1 | exact P2 | exact P3 | exact P4 | exact P5 | exact P6 | exact P7 | exact P8 | exact P9 | exact P10 | exact P11 | exact P12 | exact P13 | exact P14 | exact P15 | exact P16 | exact P17 | exact P18 | exact P19 | exact P20 | exact P21 | exact P22 | exact P23)) | (apply Part.flat; simp only [List.cons_append, List.nil_append]) | (apply Part.nilc))) ?_)
  rintro v post H' ⟨rfl, rfl⟩ hH
  try simp only [List.cons_append, List.nil_append] at hH
  subst hH
  rw [at_code hf1 hfn1 hil]
  refine SPL_one rfl (SP1_alloc Tryz.zeroValue87 rfl rfl ?_)
  intro b16
  refine SPL_one rfl (SP1_storeAll Tryz.sizeOf87 rfl rfl rfl rfl rfl (by first | exact U0 | exact U1 | exact U2 | exact U3 | exact U4 | exact U5 | exact U6 | exact U7 | exact U8 | exact U9 | exact U10 | exact U11 | exact U12 | exact U13 | exact U14 | exact U15 | exact U16 | exact U17 | exact U18 | exact U19 | exact U20 | exact U21 | exact U22 | exact U23) (by rfl) ?_)
  refine SPL_nil ?_
  refine thenP_n ?_
  refine SP_seq ?_
  refine SP_region ?_
  refine SPL_y (y_move rfl) rfl ?_
  refine SPL_y (y_loads Tryz.isAgg87 Tryz.sizeOf87 rfl rfl (by repeat (first | exact Cells.all _ | exact Cells.head rfl | apply Cells.tail))) rfl ?_
  refine SPL_one rfl (SP1_call (prep_one k pb bf oa C sj (⟨m.imports.length, m.min, m.max, fs⟩ : Prog) 0 _ f u kb ub fn.code[i] mb hmj hCI.pos hCI.top ⟨by have := hCI.st; omega, by have := hCI.len; have := hCI.ol; omega, by have := hCI.code; omega⟩ (isProg_intro (P := (⟨m.imports.length, m.min, m.max, fs⟩ : Prog)) hfl hfr hfs) (fun x hx => by have := hbd x hx; unfold FunOk at this; omega) hfu (fun x hx => by have := hCI.wle x hx; omega) (fun x hx => by have := (hCI.typ x hx).2.1; omega) (by have := (hCI.typ _ (top_mem hCI.pos)).1; omega) hwl h4 (fun _ => ⟨(hCI.typ _ (top_mem hCI.pos)).2.2, hCI.waits _ (top_mem hCI.pos)⟩)) Tryz.call79 rfl rfl (by repeat (first | exact Part.nil _ | (apply Part.cons; (first | exact P0 | exact P1 | exact P2 | exact P3 | exact P4 | exact P5 | exact P6 | exact P7 | exact P8 | exact P9 | exact P10 | exact P11 | exact P12 | exact P13 | exact P14 | exact P15 | exact P16 | exact P17 | exact P18 | exact P19 | exact P20 | exact P21 | exact P22 | exact P23)) | (apply Part.flat; simp only [List.cons_append, List.nil_append]) | (apply Part.nilc))) ?_)
  rintro v post H' ⟨oa1, s1, rfl, rfl, hm1⟩ hH
  simp only [isOn, List.cons_append, List.nil_append] at hH
  try simp only [List.cons_append, List.nil_append] at hH
  subst hH
  refine SPL_y (y_assign rfl) rfl ?_
  refine SPL_nil ?_
  refine thenP_n ?_
  refine SP_seq ?_
  refine SP_region ?_
  refine SPL_y (y_move rfl) rfl ?_
  refine SPL_ifn (y_neq rfl rfl) rfl ?_ ?_
  · intro h28_1
    refine SPL_nil ?_
    refine thenP_n ?_
    refine SP_cond_f rfl ?_
    refine SP_skip ?_
    refine inBlockP_n ?_
    refine thenP_n ?_
    refine SP_region ?_
    refine SPL_y (y_add rfl rfl (by omega)) rfl ?_
    refine SPL_y (y_move rfl) rfl ?_
    refine SPL_nil ?_
    refine thenP_n ?_
    exact Again.intro ((i + 1, (one fs u C fn.code[i]).1, oa1, s1)) (⟨by dsimp only; omega, by dsimp only; rw [hro, List.drop_eq_getElem_cons hil, runOne, if_neg (by omega)], hm1, fun hlt => by dsimp only at hlt ⊢; rcases hCI.one (u := u) (fun x hx => (hbd x hx).2.1) hno with ⟨o1, h1, h2⟩ | ⟨_, _, h3⟩; exact ⟨o1, h2, h1⟩; have := congrArg List.length h3; simp at this; omega⟩) (by simp only []; omega) (by repeat (first | exact Sub.nil _ | refine Sub.cons rfl ?_)) (by repeat (first | exact Part.nil _ | (apply Part.cons; (first | exact P0 | exact P1 | exact P2 | exact P3 | exact P4 | exact P5 | exact P6 | exact P7 | exact P8 | exact P9 | exact P10 | exact P11 | exact P12 | exact P13 | exact P14 | exact P15 | exact P16 | exact P17 | exact P18 | exact P19 | exact P20 | exact P21 | exact P22 | exact P23)) | (apply Part.flat; simp only [List.cons_append, List.nil_append]) | (apply Part.nilc)))
  intro h28_1
  refine SPL_nil ?_
  refine thenP_n ?_
  refine SP_cond_t rfl ?_
  refine SP_seq ?_
  refine SP_region ?_
  refine SPL_y (y_move rfl) rfl ?_
  refine SPL_y (y_move rfl) rfl ?_
  refine SPL_y (y_move rfl) rfl ?_
  refine SPL_y (y_assign rfl) rfl ?_
  refine SPL_y (y_assign rfl) rfl ?_
  refine SPL_y (y_assign rfl) rfl ?_
  refine SPL_nil ?_
  refine thenP_n ?_
  refine SP_ret ?_
  refine inBlockP_ret (thenP_ret (thenP_ret (inBlockP_ret (thenP_ret (inBlockP_ret (thenP_ret (thenP_ret (inBlockP_ret (thenP_ret (bodyP_ret (H' := [List.flatten [blk pb 96 [I m.imports.length, I m.min, I m.max, I 0, .slice (some ⟨bf, 0, none⟩) (m.imports.length + m.funcs.length) fc], blk bf 108 (fcs ++ spf), sc], s]) (Res3 rfl rfl rfl rfl) (by repeat (first | exact Part.nil _ | (apply Part.cons; (first | exact P0 | exact P1 | exact P2 | exact P3 | exact P4 | exact P5 | exact P6 | exact P7 | exact P8 | exact P9 | exact P10 | exact P11 | exact P12 | exact P13 | exact P14 | exact P15 | exact P16 | exact P17 | exact P18 | exact P19 | exact P20 | exact P21 | exact P22 | exact P23)) | (apply Part.flat; simp only [List.cons_append, List.nil_append]) | (apply Part.nilc))) ?_))))))))))
  have hrr : runOne fs u fn.code (Chk.start u) 0 = ((one fs u C fn.code[i]).1, i, (one fs u C fn.code[i]).2) := by rw [hro, List.drop_eq_getElem_cons hil, runOne, if_pos h28_1]
  have e : loadM m = (⟨m.imports.length, m.min, m.max, fs⟩, (f : Int), (i : Int), (one fs u C fn.code[i]).2) := by
    unfold loadM; dsimp only; rw [hrd2]; dsimp only; rw [hbo, show (m.imports.length + m.funcs.length) - f = ((m.imports.length + m.funcs.length) - (f + 1)) + 1 by omega, bodies, hfu]; dsimp only; rw [hco, hrr, if_pos h28_1]
  rw [e]
  exact ⟨_, _, rfl, rfl, isProg_intro hfl hfr hfs⟩


end Go.Sl
