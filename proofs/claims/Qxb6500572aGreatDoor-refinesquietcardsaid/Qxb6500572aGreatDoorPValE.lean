/- What is no control. -/
import Derived.Test.Qxb6500572aGreatDoorPValD
import Derived.Test.Qxb6500572aGreatDoorPSafeC
namespace Go.Wl
open Go Go.Sl
set_option linter.unusedVariables false
variable {P : Prog} {u : Fun} {n : Nat} {C C' : Chk} {T T' : Typ} {G G' : Goals} {fs : List Fun} {c : Ins}
theorem ty2_sig {op : Int} {i o : List UInt8} (h : sigs op = some (i, o)) : ty2 i ∧ ty2 o ∧ o.length ≤ 1 := by
  unfold sigs at h
  repeat' split at h
  all_goals first | (cases h; refine ⟨?_, ?_, by simp⟩ <;> (intro t ht; simp at ht; try (first | exact .inl ht | exact .inr ht | (rcases ht with ht | ht <;> simp [ht])))) | skip
  all_goals simp_all
/-- What the validator leans on. -/
structure Env1 (P : Prog) (fs : List Fun) (u : Fun) : Prop where
  sig : ∀ (k : Nat) (f : Fun), fs[k]? = some f → ∃ f', P.funs[k]? = some f' ∧ f'.params = f.params ∧ f'.results = f.results
  fty : ∀ f, f ∈ fs → ty2 f.params ∧ ty2 f.results ∧ f.results.length ≤ 1
  up : ty2 u.params
  ul : ty2 u.locals
  ur : ty2 u.results ∧ u.results.length ≤ 1
theorem VI.other (h : VI P u n C T G) (hE : Env1 P fs u) (hop : ¬ (1 ≤ c.op ∧ c.op ≤ 8)) (h64 : i64ok c.imm) (hi0 : c.op = 10 ∨ c.op = 13 ∨ c.op = 14 → 0 ≤ c.imm) (he : (one fs u C c).2 = 0) : ∃ T' G', VI P u (n + 1) (one fs u C c).1 T' G' ∧ TLe T T' := by
  have htl := h.topl
  have e1 : one fs u C c = (hole (match special fs u C c with | some r => r | none => match sigs c.op with | some (i, o) => swap C i o | none => (C, 3)).1 ⟨c.op, c.imm, 0, 0⟩, (match special fs u C c with | some r => r | none => match sigs c.op with | some (i, o) => swap C i o | none => (C, 3)).2) := by
    unfold one
    rw [if_neg (by omega), if_neg (by omega), if_neg (by omega), if_neg (by omega), if_neg (by omega)]
    rfl
  rw [e1] at he ⊢
  have hnj : ¬ jop c.op := by unfold jop; omega
  by_cases h0 : c.op = 0
  · have es : special fs u C c = some (leaves C []) := by unfold special; rw [if_pos h0]
    rw [es] at he ⊢
    refine h.gone (c := ⟨c.op, c.imm, 0, 0⟩) (pops_P htl) hnj (fun hl T' G' => ?_)
    exact ⟨fun hh => by dsimp only at hh; omega, fun hh => by dsimp only at hh; omega, fun hh => by dsimp only at hh; omega, fun hh => by dsimp only at hh; omega, fun hh => by dsimp only at hh; omega, fun hh => by dsimp only at hh; omega, fun hh => by dsimp only at hh; omega, fun hh => by dsimp only at hh; omega, fun hh => by dsimp only at hh; omega, fun hh => by dsimp only at hh; omega, fun hh => by dsimp only at hh; omega, fun hh => by dsimp only at hh; omega⟩
  by_cases h9 : c.op = 9
  · have es : special fs u C c = some (leaves C u.results) := by unfold special; rw [if_neg h0, if_pos h9]
    rw [es] at he ⊢
    refine h.gone (c := ⟨c.op, c.imm, 0, 0⟩) (pops_P htl) hnj (fun hl T' G' => ?_)
    have hp := pops_live htl (h.lived hl) (h.zst hl) hE.ur.1 he
    exact ⟨fun hh => by dsimp only at hh; omega, fun hh => by dsimp only at hh; omega, fun _ => ⟨_, hp⟩, fun hh => by dsimp only at hh; omega, fun hh => by dsimp only at hh; omega, fun hh => by dsimp only at hh; omega, fun hh => by dsimp only at hh; omega, fun hh => by dsimp only at hh; omega, fun hh => by dsimp only at hh; omega, fun hh => by dsimp only at hh; omega, fun hh => by dsimp only at hh; omega, fun hh => by dsimp only at hh; omega⟩
  by_cases h11 : c.op = 11
  · have es : special fs u C c = some (pops C [0]) := by unfold special; rw [if_neg h0, if_neg h9, if_pos h11]
    rw [es] at he ⊢
    have := h.plain (c := ⟨c.op, c.imm, 0, 0⟩) (pops_P (l := [0]) htl) (o := []) (.inl (fun t ht => by simp at ht)) (by simp) hnj (fun hl T' G' hT => ?_)
    · simpa using this
    · have hx : (pops C [0]).2 = 0 := he
      have hok : (pop C 0).2.2 = true := by
        unfold pops popsR at hx
        simp only [List.reverse_cons, List.reverse_nil, List.nil_append] at hx
        split at hx
        · assumption
        · cases hx
      obtain ⟨s, g1, g2, g3⟩ := pop_live htl (h.lived hl) (h.zst hl) hok
      have ep : (pops C [0]).1 = (pop C 0).1 := by unfold pops; simp only [List.reverse_cons, List.reverse_nil, List.nil_append, popsR]; rw [if_pos hok]
      rw [ep, List.append_nil] at hT
      exact ⟨fun hh => by dsimp only at hh; omega, fun hh => by dsimp only at hh; omega, fun hh => by dsimp only at hh; omega, fun hh => by dsimp only at hh; omega, fun hh => by dsimp only at hh; omega, fun hh => by dsimp only at hh; omega, fun hh => by dsimp only at hh; omega, fun _ => ⟨_, s, g1, hT⟩, fun hh => by dsimp only at hh; omega, fun hh => by dsimp only at hh; omega, fun hh => by dsimp only at hh; omega, fun hh => by dsimp only at hh; omega⟩
  by_cases h10 : c.op = 10
  · have es : special fs u C c = some (callI fs C c) := by unfold special; rw [if_neg h0, if_neg h9, if_neg h11, if_pos h10]
    rw [es] at he ⊢
    dsimp only at he ⊢
    unfold callI at he ⊢
    split at he
    · cases he
    · rename_i hlt
      rw [if_neg hlt]
      cases hf : fs[c.imm.toNat]? with
      | none => rw [hf] at he; cases he
      | some f =>
        rw [hf] at he
        dsimp only at he ⊢
        obtain ⟨f1, f2, f3⟩ := hE.fty f (List.mem_of_getElem? hf)
        obtain ⟨f', k1, k2, k3⟩ := hE.sig _ f hf
        refine h.plain (c := ⟨c.op, c.imm, 0, 0⟩) (pops_P htl) (.inl f2) f3 hnj (fun hl T' G' hT => ?_)
        have hp := pops_live htl (h.lived hl) (h.zst hl) f1 he
        exact ⟨fun hh => by dsimp only at hh; omega, fun hh => by dsimp only at hh; omega, fun hh => by dsimp only at hh; omega, fun hh => by dsimp only at hh; omega, fun hh => by dsimp only at hh; omega, fun hh => by dsimp only at hh; omega, fun _ => ⟨f', _, hi0 (.inl h10), k1, by rw [k2]; exact hp, by rw [k3]; exact hT⟩, fun hh => by dsimp only at hh; omega, fun hh => by dsimp only at hh; omega, fun hh => by dsimp only at hh; omega, fun hh => by dsimp only at hh; omega, fun hh => by dsimp only at hh; omega⟩
  by_cases h12 : c.op = 12
  · have es : special fs u C c = some (sel C) := by unfold special; rw [if_neg h0, if_neg h9, if_neg h11, if_neg h10, if_pos h12]
    rw [es] at he ⊢
    dsimp only at he ⊢
    have hp1 := pops_P (l := [105]) htl
    have htl1 : (pops C [105]).1.top.height ≤ (pops C [105]).1.st.length := by rw [hp1.top]; exact hp1.ht
    have hp2 := pop_pop htl1 0
    have htl2 : (pop (pops C [105]).1 0).1.top.height ≤ (pop (pops C [105]).1 0).1.st.length := by rw [hp2.top]; exact hp2.ht
    have hp3 := pop_pop htl2 (pop (pops C [105]).1 0).2.1
    unfold sel at he ⊢
    dsimp only at he ⊢
    have hall : (pop (pops C [105]).1 0).2.2 = true ∧ (pop (pop (pops C [105]).1 0).1 (pop (pops C [105]).1 0).2.1).2.2 = true ∧ (pops C [105]).2 = 0 := by
      split at he
      · rename_i hb; simp only [Bool.and_eq_true] at hb; exact ⟨hb.1, hb.2, he⟩
      · cases he
    have hlv : Live C → ∃ s, C.st = (pop (pop (pops C [105]).1 0).1 (pop (pops C [105]).1 0).2.1).1.st ++ [s, s, 105] ∧ (pop (pop (pops C [105]).1 0).1 (pop (pops C [105]).1 0).2.1).2.1 = s ∧ (s = 105 ∨ s = 108) := by
      intro hl
      have hz := h.zst hl
      have g1 := pops_live htl (h.lived hl) hz (fun t ht => by simp at ht; exact .inl ht) hall.2.2
      have hz1 : ty2 (pops C [105]).1.st := fun t ht => hz t (by rw [g1]; exact List.mem_append_left _ ht)
      obtain ⟨s1, g2, g3, _⟩ := pop_live htl1 (by rw [hp1.top]; exact h.lived hl) hz1 hall.1
      have hz2 : ty2 (pop (pops C [105]).1 0).1.st := fun t ht => hz1 t (by rw [g2]; exact List.mem_append_left _ ht)
      obtain ⟨s2, g4, g5, g6⟩ := pop_live htl2 (by rw [hp2.top, hp1.top]; exact h.lived hl) hz2 hall.2.1
      have hs1 : s1 = 105 ∨ s1 = 108 := hz1 s1 (by rw [g2]; simp)
      have e12 : s2 = s1 := by
        rw [g3] at g6
        exact g6.resolve_left (by rcases hs1 with e | e <;> rw [e] <;> decide)
      subst e12
      refine ⟨s2, ?_, g5, hs1⟩
      conv => lhs; rw [g1, g2, g4]
      simp
    refine h.plain (c := ⟨c.op, c.imm, 0, 0⟩) ((hp1.trans hp2).trans hp3) (o := [(pop (pop (pops C [105]).1 0).1 (pop (pops C [105]).1 0).2.1).2.1]) ?_ (by simp) hnj (fun hl T' G' hT => ?_)
    · by_cases hl : Live C
      · obtain ⟨s, _, g2, g3⟩ := hlv hl
        left; intro t ht; simp at ht; rw [ht, g2]; exact g3
      · exact .inr hl
    · obtain ⟨s, g1, g2, g3⟩ := hlv hl
      rw [g2] at hT
      exact ⟨fun hh => by dsimp only at hh; omega, fun hh => by dsimp only at hh; omega, fun hh => by dsimp only at hh; omega, fun hh => by dsimp only at hh; omega, fun hh => by dsimp only at hh; omega, fun hh => by dsimp only at hh; omega, fun hh => by dsimp only at hh; omega, fun hh => by dsimp only at hh; omega, fun _ => ⟨_, s, g1, hT⟩, fun hh => by dsimp only at hh; omega, fun hh => by dsimp only at hh; omega, fun hh => by dsimp only at hh; omega⟩
  by_cases h13 : c.op = 13 ∨ c.op = 14
  · have es : special fs u C c = some (localI u C c) := by unfold special; rw [if_neg h0, if_neg h9, if_neg h11, if_neg h10, if_neg h12, if_pos h13]
    rw [es] at he ⊢
    dsimp only at he ⊢
    unfold localI at he ⊢
    split at he
    · cases he
    · rename_i hlt
      rw [if_neg hlt]
      dsimp only at he ⊢
      have hi := hi0 (by omega)
      have hil : c.imm.toNat < (u.params ++ u.locals).length := by omega
      have et : ((u.params ++ u.locals).take (c.imm.toNat + 1)).drop c.imm.toNat = [(u.params ++ u.locals)[c.imm.toNat]] := by
        rw [List.take_succ_eq_append_getElem hil, List.drop_append, List.drop_eq_nil_of_le (by rw [List.length_take]; omega), List.length_take, Nat.min_eq_left (by omega), Nat.sub_self]; rfl
      have hg : (u.params ++ u.locals)[c.imm.toNat]? = some (u.params ++ u.locals)[c.imm.toNat] := List.getElem?_eq_getElem hil
      have hty : ty2 [(u.params ++ u.locals)[c.imm.toNat]] := fun t ht => by
        simp only [List.mem_singleton] at ht
        rw [ht]
        rcases List.mem_append.1 (List.getElem_mem hil) with hm | hm
        · exact hE.up _ hm
        · exact hE.ul _ hm
      rw [et] at he ⊢
      split at he
      · rename_i h14
        rw [if_pos h14]
        have := h.plain (c := ⟨c.op, c.imm, 0, 0⟩) (pops_P (l := [(u.params ++ u.locals)[c.imm.toNat]]) htl) (o := []) (.inl (fun t ht => by simp at ht)) (by simp) hnj (fun hl T' G' hT => ?_)
        · simpa using this
        · have hp := pops_live htl (h.lived hl) (h.zst hl) hty he
          rw [List.append_nil] at hT
          exact ⟨fun hh => by dsimp only at hh; omega, fun hh => by dsimp only at hh; omega, fun hh => by dsimp only at hh; omega, fun hh => by dsimp only at hh; omega, fun hh => by dsimp only at hh; omega, fun hh => by dsimp only at hh; omega, fun hh => by dsimp only at hh; omega, fun hh => by dsimp only at hh; omega, fun hh => by dsimp only at hh; omega, fun hh => by dsimp only at hh; omega, fun _ => ⟨_, _, hi, hg, hp, hT⟩, fun hh => by dsimp only at hh; omega⟩
      · rename_i h14
        rw [if_neg h14]
        refine h.plain (c := ⟨c.op, c.imm, 0, 0⟩) (pops_P htl) (.inl hty) (by simp) hnj (fun hl T' G' hT => ?_)
        have hp := pops_live (l := []) htl (h.lived hl) (h.zst hl) (fun t ht => by simp at ht) he
        rw [List.append_nil] at hp
        rw [← hp] at hT
        exact ⟨fun hh => by dsimp only at hh; omega, fun hh => by dsimp only at hh; omega, fun hh => by dsimp only at hh; omega, fun hh => by dsimp only at hh; omega, fun hh => by dsimp only at hh; omega, fun hh => by dsimp only at hh; omega, fun hh => by dsimp only at hh; omega, fun hh => by dsimp only at hh; omega, fun hh => by dsimp only at hh; omega, fun _ => ⟨_, hi, hg, hT⟩, fun hh => by dsimp only at hh; omega, fun hh => by dsimp only at hh; omega⟩
  have es : special fs u C c = none := by unfold special; rw [if_neg h0, if_neg h9, if_neg h11, if_neg h10, if_neg h12, if_neg h13]
  rw [es] at he ⊢
  dsimp only at he ⊢
  cases hs : sigs c.op with
  | none => rw [hs] at he; cases he
  | some p =>
    obtain ⟨i, o⟩ := p
    rw [hs] at he
    dsimp only at he ⊢
    obtain ⟨s1, s2, s3⟩ := ty2_sig hs
    have hr := sg_some hs
    refine h.plain (c := ⟨c.op, c.imm, 0, 0⟩) (pops_P htl) (.inl s2) s3 hnj (fun hl T' G' hT => ?_)
    have hp := pops_live htl (h.lived hl) (h.zst hl) s1 he
    exact ⟨fun hh => by dsimp only at hh; omega, fun hh => by dsimp only at hh; omega, fun hh => by dsimp only at hh; omega, fun hh => by dsimp only at hh; omega, fun hh => by dsimp only at hh; omega, fun hh => by dsimp only at hh; omega, fun hh => by dsimp only at hh; omega, fun hh => by dsimp only at hh; omega, fun hh => by dsimp only at hh; omega, fun hh => by dsimp only at hh; omega, fun hh => by dsimp only at hh; omega, fun _ => ⟨i, o, _, hs, hp, hT, fun _ => h64⟩⟩
end Go.Wl
