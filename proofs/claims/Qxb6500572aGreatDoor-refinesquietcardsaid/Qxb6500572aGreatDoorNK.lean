/- A loaded function, seen from its source: code and open blocks at each place. -/
import Derived.Test.Qxb6500572aGreatDoorNJ
namespace Go.Wl
open Go Go.Sl
set_option linter.unusedVariables false
/-- The flat instructions that a source instruction lays. -/
def emM (K : Km) (src : List Ins) (i : Nat) (c : Ins) : List Flat :=
  if c.op = 1 ∨ c.op = 2 then []
  else if c.op = 3 then [⟨3, (posOf src (if 0 ≤ (ends src i).1 then (ends src i).1 + 1 else (ends src i).2).toNat : Nat), 0, 0⟩]
  else if c.op = 4 then [⟨4, (posOf src (ends src K.top.at_.toNat).2.toNat : Nat), 0, 0⟩]
  else if c.op = 5 then (if K.cs.length = 1 then [⟨5, c.imm, 0, 0⟩] else [])
  else if c.op = 6 ∨ c.op = 7 then [{ jumpM K src c.imm.toNat with op := c.op }]
  else if c.op = 8 then ⟨8, (c.tab.length : Int) - 1, 0, 0⟩ :: c.tab.map (fun t => jumpM K src t.toNat)
  else [⟨c.op, c.imm, 0, 0⟩]
/-- The open blocks behind it. -/
def csM (K K' : Km) (i : Nat) (c : Ins) : List Ctl :=
  if c.op = 1 ∨ c.op = 2 ∨ c.op = 3 then K.cs ++ [⟨c.op, c.imm, K'.st.length, i, false⟩]
  else if c.op = 4 then K.cs.set (K.cs.length - 1) { K.top with op := 4, dead := false }
  else if c.op = 5 then K.cs.take (K.cs.length - 1)
  else if c.op = 0 ∨ c.op = 6 ∨ c.op = 8 ∨ c.op = 9 then K.cs.set (K.cs.length - 1) { K.top with dead := true }
  else K.cs
variable {src : List Ins} {i j : Nat} {o : List Int} {C : Chk} {K : Km} {fs : List Fun} {fsM : List Fm} {u : Fun} {uM : Fm} {P : Prog} {T : Typ} {code : List Flat} {c : Ins}
theorem closesM_top (K : Km) : (closesM K).1.top = K.top := topM_of (closesM_cs K)
theorem deadM_cs (K : Km) (l : List UInt8) : (deadM (popsM K l).1).cs = K.cs.set (K.cs.length - 1) { K.top with dead := true } := by
  show (popsM K l).1.cs.set _ { (popsM K l).1.top with dead := true } = _
  rw [topM_of (popsM_cs K l), popsM_cs]
theorem swapM_cs (K : Km) (a b : List UInt8) : (swapM K a b).1.cs = K.cs := popsM_cs K a
theorem one_em (hs : uM.src = src) (he : (oneM fsM uM code K i c).2.2 = 0) : (oneM fsM uM code K i c).2.1 = code ++ emM K src i c := by
  subst hs
  unfold oneM at he ⊢
  unfold emM
  by_cases h1 : c.op = 1 ∨ c.op = 2 ∨ c.op = 3
  · rw [if_pos h1]
    unfold enterM
    by_cases h3 : c.op = 3
    · rw [if_pos h3, if_neg (show ¬ (c.op = 1 ∨ c.op = 2) by omega), if_pos h3]
    · rw [if_neg h3, if_pos (show c.op = 1 ∨ c.op = 2 by omega), List.append_nil]
  rw [if_neg h1] at he
  rw [if_neg h1, if_neg (show ¬ (c.op = 1 ∨ c.op = 2) by omega), if_neg (show ¬ c.op = 3 by omega)]
  by_cases h4 : c.op = 4
  · rw [if_pos h4, if_pos h4]
    unfold turnM
    rw [closesM_top]
  rw [if_neg h4, if_neg h4]
  by_cases h5 : c.op = 5
  · rw [if_pos h5, if_pos h5]
    unfold leaveM
    dsimp only
    rw [closesM_cs]
    split
    · rfl
    · rw [List.append_nil]
  rw [if_neg h5, if_neg h5]
  rw [if_neg h4, if_neg h5] at he
  by_cases h6 : c.op = 6 ∨ c.op = 7
  · rw [if_pos h6] at he ⊢
    rw [if_pos h6]
    unfold branchM at he ⊢
    split
    · rename_i hh; rw [if_pos hh] at he; cases he
    · split <;> rfl
  rw [if_neg h6] at he ⊢
  rw [if_neg h6]
  by_cases h8 : c.op = 8
  · rw [if_pos h8] at he ⊢
    rw [if_pos h8]
    unfold tableM at he ⊢
    split
    · rename_i hh; rw [if_pos hh] at he; cases he
    · dsimp only; rw [List.append_assoc]; rfl
  · rw [if_neg h8] at he ⊢
    rw [if_neg h8]
    dsimp only at he ⊢
    rw [if_neg (show ¬ (plainM fsM uM K c).2 = 5 by omega)]
theorem one_cs (hp : 0 < K.cs.length) (he : (oneM fsM uM code K i c).2.2 = 0) : (oneM fsM uM code K i c).1.cs = csM K (oneM fsM uM code K i c).1 i c := by
  unfold oneM at he ⊢
  unfold csM
  by_cases h1 : c.op = 1 ∨ c.op = 2 ∨ c.op = 3
  · rw [if_pos h1]
    rw [if_pos h1]
    unfold enterM
    by_cases h3 : c.op = 3
    · rw [if_pos h3]
      dsimp only
      rw [popsM_cs]
    · rw [if_neg h3]
  rw [if_neg h1] at he
  rw [if_neg h1, if_neg h1]
  by_cases h4 : c.op = 4
  · rw [if_pos h4]
    rw [if_pos h4]
    unfold turnM Km.setTop
    dsimp only
    rw [closesM_top, closesM_cs]
  rw [if_neg h4] at he
  rw [if_neg h4, if_neg h4]
  by_cases h5 : c.op = 5
  · rw [if_pos h5]
    rw [if_pos h5]
    unfold leaveM
    dsimp only
    rw [closesM_cs]
  rw [if_neg h5] at he
  rw [if_neg h5, if_neg h5]
  by_cases h6 : c.op = 6 ∨ c.op = 7
  · rw [if_pos h6] at he ⊢
    unfold branchM at he ⊢
    by_cases hlt : (K.cs.length : Int) ≤ c.imm
    · rw [if_pos hlt] at he; cases he
    · rw [if_neg hlt]
      by_cases h7 : c.op = 7
      · rw [if_pos h7, if_neg (by omega), swapM_cs]
      · rw [if_neg h7, if_pos (by omega), deadM_cs]
  rw [if_neg h6] at he ⊢
  by_cases h8 : c.op = 8
  · rw [if_pos h8] at he ⊢
    rw [if_pos (by omega)]
    unfold tableM at he ⊢
    by_cases hlt : c.tab.any (fun t => decide (K.cs.length ≤ t.toNat)) = true
    · rw [if_pos hlt] at he; cases he
    · rw [if_neg hlt]
      dsimp only
      rw [deadM_cs]
  · rw [if_neg h8] at he ⊢
    dsimp only at he ⊢
    unfold plainM at he ⊢
    by_cases h0 : c.op = 0
    · rw [if_pos h0, if_pos (by omega)]; rfl
    rw [if_neg h0] at he ⊢
    by_cases h9 : c.op = 9
    · rw [if_pos h9, if_pos (by omega)]; exact deadM_cs K _
    rw [if_neg h9] at he ⊢
    rw [if_neg (show ¬ (c.op = 0 ∨ c.op = 6 ∨ c.op = 8 ∨ c.op = 9) by omega)]
    by_cases h10 : c.op = 10
    · rw [if_pos h10]
      split
      · rfl
      · split
        · exact swapM_cs _ _ _
        · rfl
    rw [if_neg h10] at he ⊢
    by_cases h11 : c.op = 11
    · rw [if_pos h11]; exact popM_cs _ _
    rw [if_neg h11] at he ⊢
    by_cases h12 : c.op = 12
    · rw [if_pos h12]
      show (popM (popM (popsM K [105]).1 0).1 _).1.cs = _
      rw [popM_cs, popM_cs, popsM_cs]
    rw [if_neg h12] at he ⊢
    by_cases h13 : c.op = 13 ∨ c.op = 14
    · rw [if_pos h13]
      split
      · rfl
      · split
        · rfl
        · exact popsM_cs _ _
    · rw [if_neg h13]; exact swapM_cs _ _ _
theorem one_lab (he : (oneM fsM uM code K i c).2.2 = 0) : (c.op = 6 ∨ c.op = 7 → c.imm < K.cs.length) ∧ (c.op = 8 → ∀ t, t ∈ c.tab → t.toNat < K.cs.length) := by
  unfold oneM at he
  refine ⟨fun h6 => ?_, fun h8 t ht => ?_⟩
  · rw [if_neg (by omega), if_neg (by omega), if_neg (by omega), if_pos h6] at he
    unfold branchM at he
    split at he
    · cases he
    · omega
  · rw [if_neg (by omega), if_neg (by omega), if_neg (by omega), if_neg (by omega), if_pos h8] at he
    unfold tableM at he
    split at he
    · cases he
    · rename_i hany
      by_cases hh : t.toNat < K.cs.length
      · exact hh
      · exact absurd (List.any_eq_true.2 ⟨t, ht, by simpa using hh⟩) hany
def liveK (cs : List Ctl) : Prop := ∀ c, c ∈ cs → c.dead = false
theorem KR.live {K : Km} {code : List Flat} (h : KR src i o C K code) (hl : liveK K.cs) : Live C := fun j b hj hb => by
  have hlen := h.len
  have hc : K.cs[j]? = some (K.cs[j]'(by omega)) := List.getElem?_eq_getElem (by omega)
  rw [(h.bl j b _ hb hc).dd]
  exact hl _ (List.getElem_mem _)
abbrev Pic.kk {P : Prog} {u : Fun} {T : Typ} {fsM : List Fm} {uM : Fm} {src : List Ins} (_ : Pic P u T fsM uM src) (i : Nat) : Km := (Kat fsM uM src i).1
section
variable (hp : Pic P u T fsM uM src)
include hp
theorem Pic.kr (hi : i < src.length) : ∃ o C, KR src i o C (hp.kk i) (Kat fsM uM src i).2 ∧ nest (src.drop i) o = 0 ∧ C.st.length ≤ i ∧ (∀ b, b ∈ C.opn → b.height ≤ i) := by
  obtain ⟨u0, _, o, C, T0, G, h1, h2, h3, _⟩ := hp.at_ i hi
  exact ⟨o, C, h1, h2, h3.stn, fun b hb => Nat.le_trans (h3.ht b hb) h3.stn⟩
theorem Pic.err (hi : i < src.length) : (oneM fsM uM (Kat fsM uM src i).2 (hp.kk i) i src[i]).2.2 = 0 := by
  obtain ⟨u0, _, o, C, T0, G, h1, h2, h3, h4, h5⟩ := hp.at_ i hi
  exact h5 _ (List.getElem?_eq_getElem hi)
theorem Pic.suc (hi : i < src.length) : Kat fsM uM src (i + 1) = ((oneM fsM uM (Kat fsM uM src i).2 (hp.kk i) i src[i]).1, (oneM fsM uM (Kat fsM uM src i).2 (hp.kk i) i src[i]).2.1) := by
  show (match src[i]? with | some c => _ | none => _) = _
  rw [List.getElem?_eq_getElem hi]
theorem Pic.pos (hi : i < src.length) : 0 < (hp.kk i).cs.length := by
  obtain ⟨o, C, h, _⟩ := hp.kr hi
  have := h.ol; omega
theorem Pic.cs (hi : i < src.length) : (hp.kk (i + 1)).cs = csM (hp.kk i) (hp.kk (i + 1)) i src[i] := by
  have h := one_cs (hp.pos hi) (hp.err hi)
  have e : hp.kk (i + 1) = (oneM fsM uM (Kat fsM uM src i).2 (hp.kk i) i src[i]).1 := by show (Kat fsM uM src (i + 1)).1 = _; rw [hp.suc hi]
  rw [e]; exact h
theorem Pic.em (hi : i < src.length) : (Kat fsM uM src (i + 1)).2 = (Kat fsM uM src i).2 ++ emM (hp.kk i) src i src[i] := by
  rw [hp.suc hi]
  exact one_em hp.sr (hp.err hi)
theorem Pic.pre : ∀ (n i : Nat), n + i = src.length → ∃ r, u.code = (Kat fsM uM src i).2 ++ r
  | 0, i, h => ⟨[], by rw [hp.code, List.append_nil, show src.length = i by omega]⟩
  | n + 1, i, h => by
    obtain ⟨r, hr⟩ := Pic.pre n (i + 1) (by omega)
    rw [hp.em (by omega)] at hr
    exact ⟨_, by rw [hr, List.append_assoc]⟩
theorem Pic.get (hi : i < src.length) {k : Nat} {f : Flat} (hk : (emM (hp.kk i) src i src[i])[k]? = some f) : u.code[posOf src i + k]? = some f := by
  obtain ⟨o, C, h, _⟩ := hp.kr hi
  obtain ⟨r, hr⟩ := hp.pre (src.length - (i + 1)) (i + 1) (by omega)
  rw [hp.em hi] at hr
  have hkl := (List.getElem?_eq_some_iff.1 hk).1
  rw [hr, ← h.ml, List.append_assoc, List.getElem?_append_right (by omega), Nat.add_sub_cancel_left, List.getElem?_append_left hkl]
  exact hk
theorem Pic.typ (hi : i < src.length) (hl : liveK (hp.kk i).cs) : T (posOf src i) = some (hp.kk i).st := by
  obtain ⟨u0, _, o, C, T0, G, h1, h2, h3, h4, h5⟩ := hp.at_ i hi
  have := h4 _ _ (h3.cur (h1.live hl))
  rw [h1.cl, ← h1.st] at this
  exact this
end
end Go.Wl
