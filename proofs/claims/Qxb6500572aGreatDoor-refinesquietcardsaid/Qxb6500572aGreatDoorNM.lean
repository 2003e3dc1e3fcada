/- The loaded program passes its own check. -/
import Derived.Test.Qxb6500572aGreatDoorNL
namespace Go.Wl
open Go Go.Sl
set_option linter.unusedVariables false
variable {src : List Ins} {i j : Nat} {o : List Int} {C : Chk} {K : Km} {code : List Flat} {fsM : List Fm} {u : Fun} {uM : Fm} {P : Prog} {T : Typ}
theorem posOf_mono : ∀ (k : Nat) {i : Nat}, i + k ≤ src.length → posOf src i ≤ posOf src (i + k)
  | 0, i, _ => Nat.le_refl _
  | k + 1, i, h => by
    have := posOf_mono k (i := i) (by omega)
    rw [show i + (k + 1) = (i + k) + 1 by omega, posOf_succ (by omega)]
    omega
theorem posOf_le_last (h : i < src.length) : posOf src i ≤ posOf src (src.length - 1) := by
  have := posOf_mono (src := src) (src.length - 1 - i) (i := i) (by omega)
  rwa [show i + (src.length - 1 - i) = src.length - 1 by omega] at this
theorem KR.labOk (h : KR src i o C K code) (hi : i < src.length) {l : Nat} (hl : l < K.cs.length) : (K.lab l).at_ < src.length ∧ ((K.lab l).op = 2 → 0 ≤ (K.lab l).at_) := by
  have e : K.cs[K.cs.length - 1 - l]? = some (K.lab l) := by rw [labM_eq hl]; exact List.getElem?_eq_getElem (by omega)
  by_cases hz : K.cs.length - 1 - l = 0
  · rw [hz] at e
    have := h.bot _ e
    rw [this.1, this.2]
    exact ⟨by omega, fun q => by omega⟩
  · have := (h.scn _ _ e (by omega)).1
    exact ⟨by have := this.atl; omega, fun _ => this.at0⟩
structure EntOk (src : List Ins) (f : Flat) (pc n : Nat) : Prop where
  ne : f.op ≠ 5
  keep : 0 ≤ f.keep ∧ f.keep ≤ 1
  cut : 0 ≤ f.cut ∧ f.cut ≤ 24
  jmp : f.op = 3 ∨ f.op = 4 ∨ f.op = 6 ∨ f.op = 7 → 0 ≤ f.imm ∧ f.imm ≤ posOf src (src.length - 1)
  tab : f.op = 8 → 0 ≤ f.imm ∧ (pc : Int) + f.imm + 1 ≤ n
section
variable (hp : Pic P u T fsM uM src)
include hp
theorem Pic.jumpOk (hi : i < src.length) {l : Nat} (hl : l < (hp.kk i).cs.length) (op : Int) (h5 : op ≠ 5) (h8 : op ≠ 8) (pc n : Nat) : EntOk src { jumpM (hp.kk i) src l with op := op } pc n := by
  obtain ⟨o, C, hk, hne, hs, hh⟩ := hp.kr hi
  have hlab := hk.labOk hi hl
  have hen := endM_rng (src := src) (c := (hp.kk i).lab l) (by omega) hlab.1 hlab.2
  have hb := hk.labs (l := l) (by rw [hk.len]; exact hl)
  have hmem : C.opn.getD (C.opn.length - 1 - l) Blk.nil ∈ C.opn := by
    rw [List.getD_eq_getElem?_getD, List.getElem?_eq_getElem (by have := hk.pos; omega)]
    exact List.getElem_mem _
  have hht := hh _ hmem
  rw [hb.ht] at hht
  have hL := hp.l
  refine ⟨h5, ?_, ?_, fun _ => ?_, fun e => absurd e h8⟩
  · unfold jumpM labelM
    dsimp only
    split
    · simp
    · unfold resOf; split <;> simp
  · show (0 : Int) ≤ ((hp.kk i).lab l).height ∧ (((hp.kk i).lab l).height : Int) ≤ 24
    omega
  · show (0 : Int) ≤ ((posOf src (endM src ((hp.kk i).lab l)).toNat : Nat) : Int) ∧ _ ≤ _
    have := posOf_le_last (src := src) (i := (endM src ((hp.kk i).lab l)).toNat) (by omega)
    show _ ∧ ((posOf src (endM src ((hp.kk i).lab l)).toNat : Nat) : Int) ≤ _
    omega
theorem Pic.ents : ∀ i, i < src.length → ∀ (pc : Nat) (f : Flat), (Kat fsM uM src i).2[pc]? = some f → EntOk src f pc (Kat fsM uM src i).2.length
  | 0, hi, pc, f, h => by simp [Kat] at h
  | i + 1, hi, pc, f, h => by
    have ih := Pic.ents i (by omega)
    obtain ⟨o, C, hk, hne, _⟩ := hp.kr (i := i) (by omega)
    obtain ⟨o', C', hk', hne', _⟩ := hp.kr (i := i + 1) hi
    have hw := (hp.wl src[i] (List.getElem_mem _)).1
    have hlb := one_lab (hp.err (i := i) (by omega))
    rw [hp.em (by omega)] at h ⊢
    rw [List.length_append]
    by_cases hpc : pc < (Kat fsM uM src i).2.length
    · rw [List.getElem?_append_left hpc] at h
      have := ih pc f h
      exact ⟨this.ne, this.keep, this.cut, this.jmp, fun e => by have := this.tab e; omega⟩
    · rw [List.getElem?_append_right (by omega)] at h
      obtain ⟨k, hk0⟩ : ∃ k, pc - (Kat fsM uM src i).2.length = k := ⟨_, rfl⟩
      have hpk : pc = (Kat fsM uM src i).2.length + k := by omega
      rw [hk0] at h
      have hen := ends_rng (src := src) (i := i) (by omega)
      have one1 : ∀ (g : Flat), ([g] : List Flat)[k]? = some f → f = g ∧ k = 0 := fun g hg => by
        cases k with
        | zero => simp at hg; exact ⟨hg.symm, rfl⟩
        | succ k => simp at hg
      unfold emM at h ⊢
      by_cases h1 : src[i].op = 1 ∨ src[i].op = 2
      · rw [if_pos h1] at h; simp at h
      rw [if_neg h1] at h ⊢
      by_cases h3 : src[i].op = 3
      · rw [if_pos h3] at h
        obtain ⟨rfl, _⟩ := one1 _ h
        refine ⟨by simp, by simp, by simp, fun _ => ?_, fun e => by simp at e⟩
        show (0 : Int) ≤ ((posOf src _ : Nat) : Int) ∧ ((posOf src _ : Nat) : Int) ≤ _
        have := posOf_le_last (src := src) (i := (if 0 ≤ (ends src i).1 then (ends src i).1 + 1 else (ends src i).2).toNat) (by
          split
          · have := (hp.atElse (i := i) (j := (ends src i).1.toNat) (by omega) (by omega) (by omega)).2.1
            omega
          · omega)
        omega
      rw [if_neg h3] at h ⊢
      by_cases h4 : src[i].op = 4
      · rw [if_pos h4] at h
        obtain ⟨rfl, _⟩ := one1 _ h
        have hat := hp.elseAt (i := i) (by omega) h4
        have hl := (hk.labOk (by omega) (l := 0) (hp.pos (by omega))).1
        have hlt : (hp.kk i).lab 0 = (hp.kk i).top := rfl
        rw [hlt] at hl
        have hen := ends_rng (src := src) (i := (hp.kk i).top.at_.toNat) (by omega)
        refine ⟨by simp, by simp, by simp, fun _ => ?_, fun e => by simp at e⟩
        show (0 : Int) ≤ ((posOf src _ : Nat) : Int) ∧ ((posOf src _ : Nat) : Int) ≤ _
        have := posOf_le_last (src := src) (i := (ends src (hp.kk i).top.at_.toNat).2.toNat) (by omega)
        omega
      rw [if_neg h4] at h ⊢
      by_cases h5 : src[i].op = 5
      · rw [if_pos h5] at h
        by_cases hq : (hp.kk i).cs.length = 1
        · exfalso
          have hol := hk.ol
          have ho : o = [] := by cases o with
            | nil => rfl
            | cons => simp at hol; omega
          subst ho
          rw [nest_end (by omega) hw h5] at hne
          split at hne
          · omega
          · cases hne
        · rw [if_neg hq] at h; simp at h
      rw [if_neg h5] at h ⊢
      by_cases h6 : src[i].op = 6 ∨ src[i].op = 7
      · rw [if_pos h6] at h
        obtain ⟨rfl, _⟩ := one1 _ h
        have hlt := hlb.1 h6
        have hge := (well_ge hw).1 (by omega)
        exact hp.jumpOk (by omega) (by omega) _ (by omega) (by omega) _ _
      rw [if_neg h6] at h ⊢
      by_cases h8 : src[i].op = 8
      · rw [if_pos h8] at h ⊢
        have hge := (well_ge hw).2 h8
        cases k with
        | zero =>
          simp only [List.getElem?_cons_zero, Option.some.injEq] at h
          subst h
          refine ⟨by simp, by simp, by simp, fun e => by simp at e, fun _ => ?_⟩
          simp only [List.length_cons, List.length_map]
          omega
        | succ k =>
          rw [List.getElem?_cons_succ, List.getElem?_map] at h
          cases hg : src[i].tab[k]? with
          | none => rw [hg] at h; simp at h
          | some t =>
            rw [hg] at h
            simp only [Option.map_some, Option.some.injEq] at h
            subst h
            exact hp.jumpOk (by omega) (hlb.2 h8 t (List.mem_of_getElem? hg)) 6 (by decide) (by decide) _ _
      · rw [if_neg h8] at h ⊢
        obtain ⟨rfl, _⟩ := one1 _ h
        refine ⟨h5, by simp, by simp, fun e => ?_, fun e => absurd e h8⟩
        dsimp only at e
        omega
theorem Pic.lastE : 0 < src.length ∧ u.code = (Kat fsM uM src (src.length - 1)).2 ++ [⟨5, 0, 0, 0⟩] ∧ (Kat fsM uM src (src.length - 1)).2.length = posOf src (src.length - 1) := by
  have h0 : 0 < src.length := by
    have := hp.ne
    cases src with
    | nil => simp [nest] at this
    | cons => simp
  have hi : src.length - 1 < src.length := by omega
  obtain ⟨o, C, hk, hne, _⟩ := hp.kr hi
  refine ⟨h0, ?_, hk.ml⟩
  have hem := hp.em hi
  rw [show src.length - 1 + 1 = src.length by omega] at hem
  rw [hp.code, hem]
  congr 1
  rw [List.drop_eq_getElem_cons hi, List.drop_eq_nil_of_le (by omega)] at hne
  have hw := nest_well hne
  simp only [nest, hw, if_true] at hne
  unfold emM
  by_cases h1 : src[src.length - 1].op = 1 ∨ src[src.length - 1].op = 2 ∨ src[src.length - 1].op = 3
  · rw [if_pos h1] at hne; split at hne <;> cases hne
  rw [if_neg h1] at hne
  by_cases h4 : src[src.length - 1].op = 4
  · rw [if_pos h4] at hne; split at hne <;> cases hne
  rw [if_neg h4] at hne
  by_cases h5 : src[src.length - 1].op = 5
  · rw [if_pos h5] at hne
    split at hne
    · rename_i ho
      subst ho
      rw [if_neg (by omega), if_neg (by omega), if_neg (by omega), if_pos h5, if_pos (show (hp.kk (src.length - 1)).cs.length = 1 from hk.ol), well_five hw h5]
    · cases hne
  · rw [if_neg h5] at hne; cases hne
theorem Pic.sound (pc : Nat) (f : Flat) (h : u.code[pc]? = some f) : SoundF f pc u.code.length := by
  obtain ⟨h0, hc, hl⟩ := hp.lastE
  rw [hc] at h ⊢
  rw [List.length_append, List.length_singleton, hl]
  by_cases hpc : pc < (Kat fsM uM src (src.length - 1)).2.length
  · rw [List.getElem?_append_left hpc] at h
    have e := hp.ents (src.length - 1) (by omega) pc f h
    refine ⟨e.keep, e.cut, ⟨fun q => absurd q e.ne, fun q => by omega⟩, fun q => ?_, fun q => ?_⟩
    · have := e.jmp q; omega
    · have := e.tab q; omega
  · have hpl := (List.getElem?_eq_some_iff.1 h).1
    rw [List.length_append, List.length_singleton] at hpl
    have hpe : pc = (Kat fsM uM src (src.length - 1)).2.length := by omega
    rw [hpe, List.getElem?_append_right (Nat.le_refl _), Nat.sub_self] at h
    simp only [List.getElem?_cons_zero, Option.some.injEq] at h
    subst h
    refine ⟨by simp, by simp, ⟨fun _ => by omega, fun _ => rfl⟩, fun q => by simp at q, fun q => by simp at q⟩
end
theorem load_check {m : Mod} {P : Prog} (h : Loaded m P) : CheckOk P := by
  refine ⟨by rw [h.nimp]; omega, by rw [h.nimp, h.len]; omega, fun f u hu => ?_⟩
  by_cases hf : f < m.imports.length
  · have := h.low f u hf hu
    rw [this]
    exact ⟨⟨fun _ => rfl, fun _ => by rw [h.nimp]; omega⟩, fun pc c hc => by simp at hc⟩
  · obtain ⟨T, fsM, uM, hp⟩ := h.pic f u (by omega) hu
    refine ⟨⟨fun q => by rw [h.nimp] at q; omega, fun q => ?_⟩, fun pc c hc => hp.sound pc c hc⟩
    have := hp.lastE.2.1
    rw [this] at q
    simp at q
end Go.Wl
