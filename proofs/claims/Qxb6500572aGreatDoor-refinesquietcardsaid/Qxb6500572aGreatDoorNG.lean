/- The two validators: an end. -/
import Derived.Test.Qxb6500572aGreatDoorNF
namespace Go.Wl
open Go Go.Sl
set_option linter.unusedVariables false
variable {src : List Ins} {i : Nat} {o : List Int} {C C' C1 : Chk} {K K' : Km} {code : List Flat} {c : Ins}
theorem KR.filled (h : KR src i o C K code) (hw : K.top.op ≠ 2 → endM src K.top = i) (ha : K.top.op = 3 → altT src K.top = posOf src i) {a : Nat} {x y : Flat}
    (hx : (fillC C.code (C.top.wait ++ C.top.alt.toList) C.code.length)[a]? = some x) (hy : code[a]? = some y) :
    x.op = y.op ∧ x.keep = y.keep ∧ x.cut = y.cut ∧ ((∀ (j : Nat) b, j < C.opn.length - 1 → C.opn[j]? = some b → a ∉ b.wait ∧ b.alt ≠ some a) → x.imm = y.imm) := by
  obtain ⟨tc1, tc2⟩ := h.tops
  have hl := h.len
  have hb := h.top
  rw [fillC_get] at hx
  cases hg : C.code[a]? with
  | none => rw [hg] at hx; simp at hx
  | some z =>
    rw [hg] at hx
    simp only [Option.map_some, Option.some.injEq] at hx
    obtain ⟨h1, h2, h3, h4⟩ := h.cd a z y hg hy
    by_cases hm : a ∈ C.top.wait ++ C.top.alt.toList
    · rw [if_pos hm] at hx
      subst hx
      refine ⟨h1, h2, h3, fun _ => ?_⟩
      show (C.code.length : Int) = y.imm
      rw [h.cl]
      rcases List.mem_append.1 hm with hm | hm
      · obtain ⟨q1, y', q2, q3⟩ := h.wt _ _ _ a tc1 (by rw [hl]; exact tc2) hm
        rw [hy] at q2
        simp only [Option.some.injEq] at q2
        subst q2
        rw [q3, hw q1, Int.toNat_natCast]
      · have hm : C.top.alt = some a := by simpa using hm
        obtain ⟨y', q2, q3⟩ := h.al _ _ _ a tc1 (by rw [hl]; exact tc2) hm
        rw [hy] at q2
        simp only [Option.some.injEq] at q2
        subst q2
        rw [q3, ha (hb.alt.1 (by rw [hm]; rfl))]
    · rw [if_neg hm] at hx
      subst hx
      refine ⟨h1, h2, h3, fun hn => h4 fun b hbm => ?_⟩
      obtain ⟨j, hj⟩ := List.getElem?_of_mem hbm
      have hjl := (List.getElem?_eq_some_iff.1 hj).1
      by_cases hjt : j = C.opn.length - 1
      · subst hjt
        have : b = C.top := by rw [tc1] at hj; simpa using hj.symm
        subst this
        exact ⟨fun q => hm (List.mem_append.2 (.inl q)), fun q => hm (List.mem_append.2 (.inr (by rw [q]; simp)))⟩
      · exact hn j b (by omega) hj
theorem resOf_nil (b : Int) : resOf b = [] ↔ b = 0 := by
  unfold resOf
  by_cases h : b = 0
  · simp [h]
  · simp [h]
theorem KR.leaveE (h : KR src i o C K code) : (leaveM K code c).2.2 = (Wl.leave C).2 := by
  obtain ⟨q1, q2, q3, q4, q5⟩ := h.closes
  have hb := h.top
  have ht1 : (Wl.closes C).1.top = C.top := by unfold Chk.top; rw [q1]
  unfold leaveM Wl.leave
  dsimp only
  rw [ht1]
  by_cases h3 : K.top.op = 3 ∧ K.top.bt ≠ 0
  · rw [if_pos h3, if_pos ⟨hb.alt.2 h3.1, by rw [hb.res]; exact fun e => h3.2 ((resOf_nil _).1 e)⟩]; rfl
  · rw [if_neg h3, if_neg (fun q => h3 ⟨hb.alt.1 q.1, fun e => q.2 (by rw [hb.res]; exact (resOf_nil _).2 e)⟩)]; exact q3
theorem KR.leaveC (h : KR src i o C K code) : (Wl.leave C).1 = ⟨(Wl.closes C).1.st ++ C.top.res, C.opn.take (C.opn.length - 1), if C.opn.length = 1 then fillC C.code (C.top.wait ++ C.top.alt.toList) C.code.length ++ [⟨5, 0, 0, 0⟩] else fillC C.code (C.top.wait ++ C.top.alt.toList) C.code.length⟩ := by
  obtain ⟨q1, q2, q3, q4, q5⟩ := h.closes
  have ht1 : (Wl.closes C).1.top = C.top := by unfold Chk.top; rw [q1]
  unfold Wl.leave
  dsimp only
  rw [ht1]
  rw [q1]
theorem KR.leave (h : KR src i o C K code) (hi : i < src.length) (hc : src[i] = c) (hop : c.op = 5) (ho : 0 < o.length) : KR src (i + 1) o.dropLast (Wl.leave C).1 (leaveM K code c).1 (leaveM K code c).2.1 := by
  have hop' : src[i].op = 5 := by rw [hc]; exact hop
  obtain ⟨q1, q2, q3, q4, q5⟩ := h.closes
  obtain ⟨t1, t2⟩ := h.topop ho
  obtain ⟨tc1, tc2⟩ := h.tops
  have hb := h.top
  have hl := h.len
  have hol := h.ol
  have hcm : code.length = C.code.length := by rw [h.ml, h.cl]
  have hz : szOf src[i] = 0 := by unfold szOf; rw [if_pos (by omega)]
  have hps : posOf src (i + 1) = posOf src i := by rw [posOf_succ hi, hz]; rfl
  obtain ⟨els, hen, hel1, hel2⟩ := t2.sc
  rw [endsR_end0 hi hop'] at hen
  have hw : K.top.op ≠ 2 → endM src K.top = i := fun h2 => by unfold endM; rw [if_neg h2, if_pos t2.at0, hen]
  have ha : K.top.op = 3 → altT src K.top = posOf src i := fun h3 => by
    unfold altT; rw [hen]; dsimp only; rw [hel1 (by omega), if_neg (by omega), Int.toNat_natCast]
  have ek : (leaveM K code c).1 = ⟨(Wl.closes C).1.st ++ resOf K.top.bt, K.cs.take (K.cs.length - 1)⟩ := by unfold leaveM; dsimp only; rw [q2]
  have ec : (leaveM K code c).2.1 = code := by unfold leaveM; dsimp only; rw [q2]; exact if_neg (show ¬ K.cs.length = 1 by omega)
  have eC := h.leaveC
  rw [if_neg (by omega)] at eC
  rw [eC, ek, ec]
  have bcase : ∀ {j : Nat} {b : Blk}, (C.opn.take (C.opn.length - 1))[j]? = some b → j < C.opn.length - 1 ∧ C.opn[j]? = some b := fun {j b} hb' => by
    rw [List.getElem?_take] at hb'
    split at hb'
    · exact ⟨by assumption, hb'⟩
    · cases hb'
  have ccase : ∀ {j : Nat} {b : Ctl}, (K.cs.take (K.cs.length - 1))[j]? = some b → j < K.cs.length - 1 ∧ K.cs[j]? = some b := fun {j b} hb' => by
    rw [List.getElem?_take] at hb'
    split at hb'
    · exact ⟨by assumption, hb'⟩
    · cases hb'
  refine ⟨?_, ?_, ?_, ?_, ?_, ?_, ?_, ?_, ?_, ?_, ?_, ?_, ?_⟩
  · show _ ++ _ = _ ++ _; rw [hb.res]
  · show (C.opn.take _).length = (K.cs.take _).length; rw [List.length_take, List.length_take]; omega
  · show (K.cs.take _).length = _; rw [List.length_take, List.length_dropLast]; omega
  · intro j b c1 hb1 hc1
    exact h.bl j b c1 (bcase hb1).2 (ccase hc1).2
  · intro j c1 hc1 hj
    obtain ⟨j2, hc2⟩ := ccase hc1
    show Scan src (i + 1) c1 ((K.cs.take _).length - 1 - j) ∧ _
    rw [List.length_take]
    obtain ⟨⟨h1, h2, h4, els, h5, h6⟩, h7⟩ := h.scn j c1 hc2 hj
    refine ⟨⟨h1, by omega, h4, els, ?_, h6⟩, ?_⟩
    · rw [h5, show K.cs.length - 1 - j = (min (K.cs.length - 1) K.cs.length - 1 - j) + 1 by omega, endsR_end hi hop']
    · rw [List.getElem?_dropLast, if_pos (by omega)]; exact h7
  · intro c1 hc1
    exact h.bot c1 (ccase hc1).2
  · show (fillC C.code _ _).length = _; rw [fillC_len, h.cl, hps]
  · rw [h.ml, hps]
  · intro a x y hx hy
    obtain ⟨h1, h2, h3, h4⟩ := h.filled hw ha hx hy
    refine ⟨h1, h2, h3, fun hn => h4 fun j b hj hbj => hn b (List.mem_of_getElem? (i := j) ?_)⟩
    show (C.opn.take _)[j]? = _
    rw [List.getElem?_take, if_pos hj]; exact hbj
  · intro j b c1 a hb1 hc1 ha1
    exact h.wt j b c1 a (bcase hb1).2 (ccase hc1).2 ha1
  · intro j b c1 a hb1 hc1 ha1
    exact h.al j b c1 a (bcase hb1).2 (ccase hc1).2 ha1
  · intro j1 j2 b1 b2 a hb1 hb2 ha1 ha2
    exact h.dis j1 j2 b1 b2 a (bcase hb1).2 (bcase hb2).2 ha1 ha2
  · intro b hb1 a ha1
    show a < (fillC C.code _ _).length
    rw [fillC_len]
    exact h.pl b (List.mem_of_mem_take hb1) a ha1
theorem KR.last (h : KR src i [] C K code) (hi : i < src.length) (hc : src[i] = c) (hop : c.op = 5) (hl : i + 1 = src.length) (him : c.imm = 0) : (Wl.leave C).1.code = (leaveM K code c).2.1 := by
  obtain ⟨q1, q2, q3, q4, q5⟩ := h.closes
  have hlen := h.len
  have hol := h.ol
  simp only [List.length_nil] at hol
  have hcm : code.length = C.code.length := by rw [h.ml, h.cl]
  obtain ⟨tc1, tc2⟩ := h.tops
  have hbt := h.bot K.top (by rw [hol] at tc2; exact tc2)
  have ec : (leaveM K code c).2.1 = code ++ [⟨5, 0, 0, 0⟩] := by unfold leaveM; dsimp only; rw [q2, him]; exact if_pos (show K.cs.length = 1 by omega)
  have eC := h.leaveC
  rw [if_pos (by omega)] at eC
  rw [eC, ec]
  show fillC _ _ _ ++ _ = _
  congr 1
  apply List.ext_getElem
  · rw [fillC_len, hcm]
  · intro a h1 h2
    obtain ⟨p1, p2, p3, p4⟩ := h.filled (a := a) (fun _ => by unfold endM; rw [hbt.1, hbt.2, if_neg (by decide), if_neg (by decide)]; omega) (fun h3 => by rw [hbt.1] at h3; omega) (List.getElem?_eq_getElem h1) (List.getElem?_eq_getElem h2)
    have p5 := p4 fun j b hj => by omega
    cases hx : (fillC C.code (C.top.wait ++ C.top.alt.toList) C.code.length)[a] with
    | mk o1 i1 k1 c1 =>
      cases hy : code[a] with
      | mk o2 i2 k2 c2 =>
        rw [hx, hy] at p1 p2 p3 p5
        simp only at p1 p2 p3 p5
        subst p1 p2 p3 p5
        rfl
end Go.Wl
