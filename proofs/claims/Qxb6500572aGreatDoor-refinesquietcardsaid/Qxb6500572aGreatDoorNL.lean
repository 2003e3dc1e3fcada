/- A loaded function: where a block ends. -/
import Derived.Test.Qxb6500572aGreatDoorNK
namespace Go.Wl
open Go Go.Sl
set_option linter.unusedVariables false
theorem endsR_ge : ∀ {l : List Ins} {o : List Int} {j d : Nat} {els : Int}, nest l o = 0 → d < o.length → (j : Int) ≤ (endsR l j els d).2 ∧ ∀ c l', l = c :: l' → ¬ (c.op = 5 ∧ d = 0) → (j : Int) + 1 ≤ (endsR l j els d).2
  | [], o, j, d, els, hn, _ => by simp [nest] at hn
  | c :: l, o, j, d, els, hn, hd => by
    have hw := nest_well hn
    simp only [nest, hw, if_true] at hn
    unfold endsR
    by_cases h1 : c.op = 1 ∨ c.op = 2 ∨ c.op = 3
    · rw [if_pos h1] at hn ⊢
      split at hn
      · cases hn
      · have := (endsR_ge (j := j + 1) (d := d + 1) (els := els) hn (by simp; omega)).1
        exact ⟨by omega, fun _ _ _ _ => by omega⟩
    rw [if_neg h1] at hn ⊢
    by_cases h2 : c.op = 4
    · rw [if_pos h2] at hn ⊢
      split at hn
      · have := (endsR_ge (j := j + 1) (d := d) (els := if d = 0 then (j : Int) else els) hn (by simp; omega)).1
        exact ⟨by omega, fun _ _ _ _ => by omega⟩
      · cases hn
    rw [if_neg h2] at hn ⊢
    by_cases h3 : c.op = 5
    · rw [if_pos h3] at hn ⊢
      by_cases hd0 : d = 0
      · rw [if_pos hd0]
        refine ⟨Int.le_refl _, fun c' l' e hne => ?_⟩
        cases e
        exact absurd ⟨h3, hd0⟩ hne
      · rw [if_neg hd0]
        rw [if_neg (by intro e; subst e; simp at hd)] at hn
        have := (endsR_ge (j := j + 1) (d := d - 1) (els := els) hn (by rw [List.length_dropLast]; omega)).1
        exact ⟨by omega, fun _ _ _ _ => by omega⟩
    · rw [if_neg h3] at hn ⊢
      have := (endsR_ge (j := j + 1) (d := d) (els := els) hn hd).1
      exact ⟨by omega, fun _ _ _ _ => by omega⟩
theorem endsR_fst : ∀ {l : List Ins} {o : List Int} {j d : Nat} {els : Int}, nest l o = 0 → d < o.length → (endsR l j els d).1 = els ∨ ((j : Int) ≤ (endsR l j els d).1 ∧ (endsR l j els d).1 < (endsR l j els d).2)
  | [], o, j, d, els, hn, _ => by simp [nest] at hn
  | c :: l, o, j, d, els, hn, hd => by
    have hw := nest_well hn
    simp only [nest, hw, if_true] at hn
    unfold endsR
    by_cases h1 : c.op = 1 ∨ c.op = 2 ∨ c.op = 3
    · rw [if_pos h1] at hn ⊢
      split at hn
      · cases hn
      · have := endsR_fst (j := j + 1) (d := d + 1) (els := els) hn (by simp; omega)
        omega
    rw [if_neg h1] at hn ⊢
    by_cases h2 : c.op = 4
    · rw [if_pos h2] at hn ⊢
      split at hn
      · have := endsR_fst (j := j + 1) (d := d) (els := if d = 0 then (j : Int) else els) hn (by simp; omega)
        have h3 := (endsR_ge (j := j + 1) (d := d) (els := if d = 0 then (j : Int) else els) hn (by simp; omega)).1
        by_cases hd0 : d = 0
        · rw [if_pos hd0] at this h3 ⊢
          omega
        · rw [if_neg hd0] at this h3 ⊢
          omega
      · cases hn
    rw [if_neg h2] at hn ⊢
    by_cases h3 : c.op = 5
    · rw [if_pos h3] at hn ⊢
      by_cases hd0 : d = 0
      · rw [if_pos hd0]; exact .inl rfl
      · rw [if_neg hd0]
        rw [if_neg (by intro e; subst e; simp at hd)] at hn
        have := endsR_fst (j := j + 1) (d := d - 1) (els := els) hn (by rw [List.length_dropLast]; omega)
        omega
    · rw [if_neg h3] at hn ⊢
      have := endsR_fst (j := j + 1) (d := d) (els := els) hn hd
      omega
variable {src : List Ins} {i j : Nat} {fsM : List Fm} {u : Fun} {uM : Fm} {P : Prog} {T : Typ}
/-- The block that was opened at i, seen at j. -/
structure Blk1 (src : List Ins) (i j : Nat) (op imm : Int) (h : Nat) (c : Ctl) : Prop where
  at_ : c.at_ = i
  bt : c.bt = imm
  ht : c.height = h
  op : c.op = op ∨ (c.op = 4 ∧ op = 3 ∧ 0 ≤ (ends src i).1 ∧ (ends src i).1 < j)
theorem Blk1.mono {op imm : Int} {h j' : Nat} {c : Ctl} (b : Blk1 src i j op imm h c) (hj : j ≤ j') : Blk1 src i j' op imm h c :=
  ⟨b.at_, b.bt, b.ht, b.op.imp id fun q => ⟨q.1, q.2.1, q.2.2.1, by omega⟩⟩
section
variable (hp : Pic P u T fsM uM src)
include hp
theorem Pic.gt (hi : i < src.length) (hop : src[i].op = 1 ∨ src[i].op = 2 ∨ src[i].op = 3) : (i : Int) < (ends src i).2 ∧ (ends src i).2 < src.length := by
  obtain ⟨o, C, hk, hne, _⟩ := hp.kr hi
  rw [List.drop_eq_getElem_cons hi] at hne
  have hw := nest_well hne
  simp only [nest, hw, if_true] at hne
  rw [if_pos hop] at hne
  split at hne
  · cases hne
  · have := (endsR_ge (j := i + 1) (d := 0) (els := -1) hne (by simp)).1
    have h2 := ends_rng hi
    unfold ends at h2 ⊢
    omega
theorem Pic.inside (hi : i < src.length) (hop : src[i].op = 1 ∨ src[i].op = 2 ∨ src[i].op = 3) : ∀ (n j : Nat), j = i + 1 + n → (j : Int) ≤ (ends src i).2 →
    (hp.kk j).cs.take (hp.kk i).cs.length = (hp.kk i).cs ∧ ∃ c, (hp.kk j).cs[(hp.kk i).cs.length]? = some c ∧ Blk1 src i j src[i].op src[i].imm (hp.kk (i + 1)).st.length c
  | 0, j, hj, he => by
    subst hj
    rw [Nat.add_zero] at he ⊢
    have h := hp.cs hi
    unfold csM at h
    rw [if_pos hop] at h
    rw [h]
    refine ⟨by simp, _, by simp; rfl, rfl, rfl, rfl, .inl rfl⟩
  | n + 1, j, hj, he => by
    obtain ⟨j0, rfl⟩ : ∃ j0, j = j0 + 1 := ⟨i + 1 + n, by omega⟩
    obtain ⟨h1, c, h2, hb⟩ := Pic.inside hi hop n j0 (by omega) (by omega)
    have hr := (hp.gt hi hop).2
    have hj0 : j0 < src.length := by omega
    obtain ⟨o, C, hk, hne, _⟩ := hp.kr hj0
    have hol := hk.ol
    have hnl := (List.getElem?_eq_some_iff.1 h2).1
    have hpos := hp.pos hi
    obtain ⟨hsc, hoc⟩ := hk.scn _ c h2 hpos
    obtain ⟨els, hen, e1, e2⟩ := hsc.sc
    rw [hb.at_, Int.toNat_natCast] at hen
    have htop := hk.tops.2
    have h := hp.cs hj0
    unfold csM at h
    rw [List.drop_eq_getElem_cons hj0] at hne
    have hw := nest_well hne
    have hne0 := hne
    simp only [nest, hw, if_true] at hne
    have hb' := hb.mono (Nat.le_succ j0)
    by_cases o1 : src[j0].op = 1 ∨ src[j0].op = 2 ∨ src[j0].op = 3
    · rw [if_pos o1] at h
      rw [h]
      refine ⟨by rw [List.take_append_of_le_length (by omega)]; exact h1, c, by rw [List.getElem?_append_left hnl]; exact h2, hb'⟩
    rw [if_neg o1] at h hne
    have hset : ∀ (f : Ctl), (hp.kk j0).cs.length - 1 ≠ (hp.kk i).cs.length → ((hp.kk j0).cs.set ((hp.kk j0).cs.length - 1) f).take (hp.kk i).cs.length = (hp.kk i).cs ∧ ((hp.kk j0).cs.set ((hp.kk j0).cs.length - 1) f)[(hp.kk i).cs.length]? = some c := fun f hf => by
      refine ⟨?_, by rw [List.getElem?_set_ne hf]; exact h2⟩
      rw [List.take_set_of_le (by omega)]; exact h1
    have hset2 : ∀ (f : Ctl), (hp.kk j0).cs.length - 1 = (hp.kk i).cs.length → ((hp.kk j0).cs.set ((hp.kk j0).cs.length - 1) f).take (hp.kk i).cs.length = (hp.kk i).cs ∧ ((hp.kk j0).cs.set ((hp.kk j0).cs.length - 1) f)[(hp.kk i).cs.length]? = some f ∧ (hp.kk j0).top = c := fun f hf => by
      refine ⟨?_, by rw [hf, List.getElem?_set_self hnl], ?_⟩
      · rw [List.take_set_of_le (by omega)]; exact h1
      · rw [hf, h2] at htop; exact (Option.some.inj htop).symm
    by_cases o4 : src[j0].op = 4
    · rw [if_pos o4] at h hne
      rw [h]
      by_cases hq : (hp.kk j0).cs.length - 1 = (hp.kk i).cs.length
      · obtain ⟨g1, g2, g3⟩ := hset2 { (hp.kk j0).top with op := 4, dead := false } hq
        refine ⟨g1, _, g2, ?_⟩
        rw [g3]
        split at hne
        · rename_i hlast
          have hc3 : c.op = 3 := by
            rw [List.getLast?_eq_getElem?] at hlast
            rw [show o.length - 1 = (hp.kk i).cs.length - 1 by omega, hoc] at hlast
            simpa using hlast
          have hs3 : src[i].op = 3 := by
            rcases hb.op with q | q
            · omega
            · omega
          have hz : (hp.kk j0).cs.length - 1 - (hp.kk i).cs.length = 0 := by omega
          rw [hz, endsR_else0 hj0 o4] at hen
          have hk1 : (ends src i).1 = j0 := by
            rw [hen]
            refine endsR_keep hne (by simp) ?_
            rw [List.length_append, List.length_singleton, show o.dropLast.length + 1 - 1 - 0 = o.dropLast.length by omega, List.getElem?_append_right (Nat.le_refl _), Nat.sub_self]; rfl
          exact ⟨hb.at_, hb.bt, hb.ht, .inr ⟨rfl, hs3, by omega, by omega⟩⟩
        · cases hne
      · obtain ⟨g1, g2⟩ := hset { (hp.kk j0).top with op := 4, dead := false } hq
        exact ⟨g1, c, g2, hb'⟩
    rw [if_neg o4] at h hne
    by_cases o5 : src[j0].op = 5
    · rw [if_pos o5] at h
      rw [h]
      have hq : (hp.kk j0).cs.length - 1 ≠ (hp.kk i).cs.length := fun hq => by
        have hz : (hp.kk j0).cs.length - 1 - (hp.kk i).cs.length = 0 := by omega
        rw [hz, endsR_end0 hj0 o5] at hen
        rw [hen] at he
        dsimp only at he
        omega
      refine ⟨by rw [List.take_take, Nat.min_eq_left (by omega)]; exact h1, c, by rw [List.getElem?_take, if_pos (by omega)]; exact h2, hb'⟩
    rw [if_neg o5] at h
    by_cases od : src[j0].op = 0 ∨ src[j0].op = 6 ∨ src[j0].op = 8 ∨ src[j0].op = 9
    · rw [if_pos od] at h
      rw [h]
      by_cases hq : (hp.kk j0).cs.length - 1 = (hp.kk i).cs.length
      · obtain ⟨g1, g2, g3⟩ := hset2 { (hp.kk j0).top with dead := true } hq
        refine ⟨g1, _, g2, ?_⟩
        rw [g3]
        exact ⟨hb'.at_, hb'.bt, hb'.ht, hb'.op⟩
      · obtain ⟨g1, g2⟩ := hset { (hp.kk j0).top with dead := true } hq
        exact ⟨g1, c, g2, hb'⟩
    · rw [if_neg od] at h
      rw [h]
      exact ⟨h1, c, h2, hb'⟩
theorem Pic.ins (hi : i < src.length) (hop : src[i].op = 1 ∨ src[i].op = 2 ∨ src[i].op = 3) (hij : i < j) (he : (j : Int) ≤ (ends src i).2) :
    (hp.kk j).cs.take (hp.kk i).cs.length = (hp.kk i).cs ∧ ∃ c, (hp.kk j).cs[(hp.kk i).cs.length]? = some c ∧ Blk1 src i j src[i].op src[i].imm (hp.kk (i + 1)).st.length c := hp.inside hi hop (j - (i + 1)) j (by omega) he
/-- At its end. -/
theorem Pic.atEnd (hi : i < src.length) (hop : src[i].op = 1 ∨ src[i].op = 2 ∨ src[i].op = 3) (hj : (j : Int) = (ends src i).2) : ∃ h : j < src.length, src[j].op = 5 ∧ (hp.kk j).cs.length = (hp.kk i).cs.length + 1 ∧ (hp.kk (j + 1)).cs = (hp.kk i).cs := by
  have hg := hp.gt hi hop
  have hjl : j < src.length := by omega
  obtain ⟨h1, c, h2, hb⟩ := hp.ins hi hop (j := j) (by omega) (by omega)
  obtain ⟨o, C, hk, hne, _⟩ := hp.kr hjl
  have hol := hk.ol
  have hnl := (List.getElem?_eq_some_iff.1 h2).1
  have hpos := hp.pos hi
  obtain ⟨hsc, hoc⟩ := hk.scn _ c h2 hpos
  obtain ⟨els, hen, e1, e2⟩ := hsc.sc
  rw [hb.at_, Int.toNat_natCast] at hen
  have hd : (hp.kk j).cs.length - 1 - (hp.kk i).cs.length < o.length := by omega
  have := (endsR_ge (j := j) (els := els) hne hd).2 src[j] _ (List.drop_eq_getElem_cons hjl)
  have h5 : src[j].op = 5 ∧ (hp.kk j).cs.length - 1 - (hp.kk i).cs.length = 0 := Decidable.byContradiction fun hn => by
    have := this hn
    rw [← hen] at this
    omega
  refine ⟨hjl, h5.1, by omega, ?_⟩
  have h := hp.cs hjl
  unfold csM at h
  rw [if_neg (by omega), if_neg (by omega), if_pos h5.1] at h
  rw [h, ← h1]
  congr 1
  omega
/-- At its else. -/
theorem Pic.atElse (hi : i < src.length) (hop : src[i].op = 1 ∨ src[i].op = 2 ∨ src[i].op = 3) (hj : (j : Int) = (ends src i).1) : i < j ∧ (j : Int) < (ends src i).2 ∧ ∃ c : Ctl, (hp.kk (j + 1)).cs = (hp.kk i).cs ++ [c] ∧ c.dead = false ∧ c.op = 4 ∧ c.at_ = (i : Int) ∧ c.bt = src[i].imm ∧ c.height = (hp.kk (i + 1)).st.length ∧ src[i].op = 3 := by
  have hg := hp.gt hi hop
  have hrg := ends_rng hi
  have hij : i < j := by omega
  have hlt : (j : Int) < (ends src i).2 := by
    obtain ⟨o, C, hk, hne, _⟩ := hp.kr hi
    rw [List.drop_eq_getElem_cons hi] at hne
    have hw := nest_well hne
    simp only [nest, hw, if_true] at hne
    rw [if_pos hop] at hne
    split at hne
    · cases hne
    · have := endsR_fst (j := i + 1) (d := 0) (els := -1) hne (by simp)
      unfold ends at hj ⊢
      omega
  refine ⟨hij, hlt, ?_⟩
  have hjl : j < src.length := by omega
  obtain ⟨h1, c, h2, hb⟩ := hp.ins hi hop (j := j) (by omega) (by omega)
  obtain ⟨o, C, hk, hne, _⟩ := hp.kr hjl
  have hol := hk.ol
  have hnl := (List.getElem?_eq_some_iff.1 h2).1
  have hpos := hp.pos hi
  obtain ⟨hsc, hoc⟩ := hk.scn _ c h2 hpos
  obtain ⟨els, hen, e1, e2⟩ := hsc.sc
  rw [hb.at_, Int.toNat_natCast] at hen
  have hcop : c.op = src[i].op := by
    rcases hb.op with q | q
    · exact q
    · omega
  have hels : els = -1 := e1 (by omega)
  subst hels
  obtain ⟨d, hd⟩ : ∃ d, (hp.kk j).cs.length - 1 - (hp.kk i).cs.length = d := ⟨_, rfl⟩
  rw [hd] at hen
  have h4 : src[j].op = 4 ∧ d = 0 := Decidable.byContradiction fun hn => by
    have key : ∀ d', ends src i = endsR (src.drop (j + 1)) (j + 1) (-1) d' → False := fun d' h => by
      have := (endsR_rng (src.drop (j + 1)) (j + 1) d' (-1)).2.2
      rw [← h] at this
      omega
    by_cases o1 : src[j].op = 1 ∨ src[j].op = 2 ∨ src[j].op = 3
    · exact key _ (by rw [hen, endsR_open hjl o1])
    by_cases o4 : src[j].op = 4
    · exact key _ (by rw [hen, endsR_else hjl o4 (fun q => hn ⟨o4, q⟩)])
    by_cases o5 : src[j].op = 5
    · cases d with
      | zero => rw [endsR_end0 hjl o5] at hen; rw [hen] at hj; dsimp only at hj; omega
      | succ d => exact key _ (by rw [hen, endsR_end hjl o5])
    · exact key _ (by rw [hen, endsR_step hjl (by omega)])
  have h := hp.cs hjl
  unfold csM at h
  rw [if_neg (by omega), if_pos h4.1] at h
  have hq : (hp.kk j).cs.length = (hp.kk i).cs.length + 1 := by omega
  have htop := hk.tops.2
  rw [show (hp.kk j).cs.length - 1 = (hp.kk i).cs.length by omega, h2] at htop
  have htc : (hp.kk j).top = c := (Option.some.inj htop).symm
  have hs3 : src[i].op = 3 := by
    rw [List.drop_eq_getElem_cons hjl] at hne
    have hl := nest_four hne h4.1
    rw [List.getLast?_eq_getElem?, show o.length - 1 = (hp.kk i).cs.length - 1 by omega, hoc] at hl
    have : c.op = 3 := by simpa using hl
    omega
  refine ⟨{ c with op := 4, dead := false }, ?_, rfl, rfl, hb.at_, hb.bt, hb.ht, hs3⟩
  rw [h, htc, ← List.take_append_drop (hp.kk i).cs.length (hp.kk j).cs, h1]
  have hdr : (hp.kk j).cs.drop (hp.kk i).cs.length = [c] := by
    rw [List.drop_eq_getElem_cons hnl, List.drop_eq_nil_of_le (by omega)]
    rw [List.getElem?_eq_getElem hnl] at h2
    rw [Option.some.inj h2]
  rw [hdr, List.length_append, List.length_singleton, Nat.add_sub_cancel, List.set_append_right _ _ (Nat.le_refl _), Nat.sub_self]
  rfl
/-- Where the innermost block's end lies. -/
def endX (src : List Ins) (c : Ctl) : Nat := if 0 ≤ c.at_ then (ends src c.at_.toNat).2.toNat else src.length - 1
theorem Pic.endAt (hi : i < src.length) (h5 : src[i].op = 5) : endX src (hp.kk i).top = i := by
  obtain ⟨o, C, hk, hne, _⟩ := hp.kr hi
  unfold endX
  by_cases ho : 0 < o.length
  · obtain ⟨_, t2⟩ := hk.topop ho
    obtain ⟨els, hen, _, _⟩ := t2.sc
    rw [endsR_end0 hi h5] at hen
    rw [if_pos t2.at0, hen, Int.toNat_natCast]
  · have ho : o = [] := by cases o with
      | nil => rfl
      | cons => simp at ho
    subst ho
    have hol := hk.ol
    simp only [List.length_nil] at hol
    have htop := hk.tops.2
    rw [hol] at htop
    rw [(hk.bot _ htop).2, if_neg (by decide)]
    have hw : well src[i] = true := by rw [List.drop_eq_getElem_cons hi] at hne; exact nest_well hne
    rw [nest_end hi hw h5] at hne
    split at hne
    · omega
    · cases hne
theorem Pic.elseAt (hi : i < src.length) (h4 : src[i].op = 4) : 0 ≤ (hp.kk i).top.at_ := by
  obtain ⟨o, C, hk, hne, _⟩ := hp.kr hi
  rw [List.drop_eq_getElem_cons hi] at hne
  have hl := nest_four hne h4
  have ho : 0 < o.length := by cases o with
    | nil => simp at hl
    | cons => simp
  exact (hk.topop ho).2.at0
end
end Go.Wl
