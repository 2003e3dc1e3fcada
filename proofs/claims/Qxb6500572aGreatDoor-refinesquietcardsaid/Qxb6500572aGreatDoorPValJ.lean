/- Holes are filled. -/
import Derived.Test.Qxb6500572aGreatDoorPValI
namespace Go.Wl
open Go Go.Sl
set_option linter.unusedVariables false
variable {P : Prog} {u : Fun} {n : Nat} {C C1 C2 C' : Chk} {T T' : Typ} {G G' : Goals} {fs : List Fun} {c : Ins} {w : Nat → Nat → Prop} {l : List Blk} {b b' : Blk}
theorem fillC_get (t : Int) (k : Nat) : ∀ (L : List Nat) (code : List Flat), (fillC code L t)[k]? = (code[k]?).map (fun f => if k ∈ L then { f with imm := t } else f)
  | [], code => by simp [fillC]
  | a :: L, code => by
    show (fillC (code.modify a fun f => { f with imm := t }) L t)[k]? = _
    rw [fillC_get t k L, List.getElem?_modify]
    cases code[k]? with
    | none => rfl
    | some f =>
      simp only [Option.map_some, Option.map_eq_map]
      by_cases e : a = k
      · subst e; simp
      · by_cases e2 : k ∈ L
        · simp [e2, e]
        · have : ¬ k = a := fun h => e h.symm
          simp [e2, e, this]
theorem VI.le (h : VI P u n C T G) {n' : Nat} (hn : n ≤ n') : VI P u n' C T G :=
  ⟨h.ne, h.ht, h.inc, h.res, Nat.le_trans h.stn hn, h.zst, h.zht, h.cur, h.curN, h.out, fun pc τ hτ => ⟨Nat.le_trans (h.tl pc τ hτ).1 hn, (h.tl pc τ hτ).2⟩, h.ins, h.gl, h.pj, h.pu, h.pw, h.hd, h.bot, h.z0⟩
open Classical in
theorem VI.resolve (h : VI P u n C T G) {n' : Nat} (hnn : n ≤ n') {L : List Nat} (he : C.opn = l ++ [b]) (he' : C'.opn = l ++ [b']) (b1 : b'.height = b.height) (b2 : b'.res = b.res) (b3 : b'.carry = b.carry) (b4 : b'.head = b.head) (b5 : b'.dead = false) (b6 : b'.alt = none)
    (hW : ∀ a, a ∈ b'.wait → a ∈ b.wait ∧ a ∉ L) (hW2 : ∀ a, a ∈ pend b → a ∈ L ∨ a ∈ b'.wait) (hL : ∀ a, a ∈ L → a ∈ pend b) (hc : C'.code = fillC C.code L C.code.length)
    (hs : C'.st.take b.height = C.st.take b.height) (hs2 : b.height ≤ C'.st.length) (hsn : C'.st.length ≤ n') (hz : liveTo l l.length → ty2 C'.st) (hlive : Live C → C.st = C'.st)
    (hL2 : ∀ a, a ∈ L → (a ∈ b.wait → C'.st = C.st.take b.height ++ b.res) ∧ (b.alt = some a → C'.st = C.st.take b.height)) : ∃ T', VI P u n' C' T' G ∧ TLe T T' := by
  refine ⟨fun pc => if pc = C.code.length then (if liveTo l l.length then some C'.st else none) else T pc, ?_⟩
  obtain ⟨T', hT'⟩ : ∃ T' : Typ, (fun pc => if pc = C.code.length then (if liveTo l l.length then some C'.st else none) else T pc) = T' := ⟨_, rfl⟩
  rw [hT']
  have tlen : T' C.code.length = if liveTo l l.length then some C'.st else none := by rw [← hT']; simp
  have toth : ∀ pc, pc ≠ C.code.length → T' pc = T pc := fun pc hpc => by rw [← hT']; simp [hpc]
  have hTT : ∀ a t, T a = some t → T' a = some t := fun a t ha => by
    by_cases e : a = C.code.length
    · subst e
      by_cases hl : Live C
      · rw [h.cur hl] at ha; cases ha
        rw [tlen, if_pos ((live_all he).1 hl).1, hlive hl]
      · rw [h.curN hl] at ha; cases ha
    · rw [toth a e]; exact ha
  refine ⟨?_, hTT⟩
  have hcl : C'.code.length = C.code.length := by rw [hc, fillC_len]
  have hget : ∀ (k : Nat) (x : Flat), C.code[k]? = some x → C'.code[k]? = some (if k ∈ L then { x with imm := C.code.length } else x) := fun k x hx => by rw [hc, fillC_get, hx]; rfl
  have hbm : b ∈ C.opn := by rw [he]; simp
  have hjL : ∀ (k : Nat) (x : Flat), k ∈ L → C.code[k]? = some x → jop x.op := fun k x hk hx => by
    obtain ⟨y, h1, h2⟩ := h.pj b hbm k (hL k hk)
    rw [hx] at h1; cases h1; exact h2
  have hstep : ∀ (k : Nat) (x : Flat), C.code[k]? = some x → ∃ x', C'.code[k]? = some x' ∧ x'.op = x.op ∧ x'.cut = x.cut ∧ x'.keep = x.keep ∧ (¬ jop x.op → x' = x) := fun k x hx => by
    refine ⟨_, hget k x hx, ?_⟩
    by_cases hk : k ∈ L
    · rw [if_pos hk]; exact ⟨rfl, rfl, rfl, fun hn => absurd (hjL k x hk hx) hn⟩
    · rw [if_neg hk]; exact ⟨rfl, rfl, rfl, fun _ => rfl⟩
  have hCL : CodeLe C.code C'.code := hstep
  have hLv : Live C' ↔ liveTo l l.length := by rw [live_all he', b5]; simp
  have hm : ∀ x, x ∈ C'.opn → (x ∈ C.opn ∧ x ∈ l) ∨ x = b' := fun x hx => by
    rw [he'] at hx; rw [he]
    rcases List.mem_append.1 hx with hx | hx
    · exact .inl ⟨List.mem_append_left _ hx, hx⟩
    · exact .inr (by simpa using hx)
  have hg : ∀ {j : Nat} {x : Blk}, C'.opn[j]? = some x → (C.opn[j]? = some x ∧ j < l.length) ∨ (j = l.length ∧ x = b') := fun hx => by
    rw [he'] at hx
    rcases app_get hx with ⟨hx, hl⟩ | hx
    · exact .inl ⟨by rw [he]; exact app_l hx, hl⟩
    · exact .inr hx
  have hbg : C.opn[l.length]? = some b := by rw [he]; exact app_r
  have hlv : ∀ {j : Nat}, j ≤ l.length → (liveTo C'.opn j ↔ liveTo C.opn j) := fun hj => by rw [he, he', live_app hj, live_app hj]
  have hlb : ∀ {x : Blk}, x ∈ C.opn → x.height ≤ b.height := fun {x} hx => by
    obtain ⟨j, hj, hje⟩ := List.mem_iff_getElem.1 hx
    have hjl : j ≤ l.length := by rw [he] at hj; simp at hj; omega
    exact h.inc j l.length x b hjl (by rw [List.getElem?_eq_getElem hj, hje]) hbg
  have hst : ∀ {x : Blk}, x ∈ C.opn → C'.st.take x.height = C.st.take x.height := fun {x} hx => by
    have h1 := hlb hx
    rw [← Nat.min_eq_left h1, ← List.take_take, hs, List.take_take]
  have hpb : ∀ a, a ∈ pend b' → a ∈ b'.wait := fun a ha => by unfold pend at ha; rw [b6] at ha; simpa using ha
  have hpb2 : ∀ a, a ∈ pend b' → a ∈ pend b := fun a ha => List.mem_append_left _ (hW a (hpb a ha)).1
  have hfree : ∀ a, a ∈ L → Free C' a := fun a ha x hx hp => by
    rcases hm x hx with ⟨hx, hxl⟩ | rfl
    · obtain ⟨j, hj, hje⟩ := List.mem_iff_getElem.1 hxl
      have hxg : C.opn[j]? = some x := by rw [he]; exact app_l (by rw [List.getElem?_eq_getElem hj, hje])
      have := h.pu j l.length x b a hxg hbg hp (hL a ha)
      omega
    · exact (hW a (hpb a hp)).2 ha
  refine ⟨by rw [he']; simp, ?_, ?_, ?_, hsn, fun hl => hz (hLv.1 hl), ?_, fun hl => by rw [hcl, tlen, if_pos (hLv.1 hl)], fun hl => by rw [hcl, tlen, if_neg (fun x => hl (hLv.2 x))], fun pc hpc => by rw [hcl] at hpc; rw [toth pc (by omega)]; exact h.out pc hpc, ?_, ?_, ?_, ?_, ?_, ?_, ?_, ?_, hTT _ _ h.z0⟩
  · intro x hx
    rcases hm x hx with ⟨hx, _⟩ | rfl
    · exact Nat.le_trans (hlb hx) hs2
    · rw [b1]; exact hs2
  · intro i j y x hij hy hx
    rcases hg hy with ⟨hy, hl⟩ | ⟨e, rfl⟩ <;> rcases hg hx with ⟨hx, hl'⟩ | ⟨e', rfl⟩
    · exact h.inc i j y x hij hy hx
    · rw [b1]; exact h.inc i j y b hij hy (by rw [e']; exact hbg)
    · omega
    · exact Nat.le_refl _
  · intro x hx
    rcases hm x hx with ⟨hx, _⟩ | rfl
    · exact h.res x hx
    · rw [b2, b3, b4]; exact h.res b hbm
  · intro j x hx hl
    rcases hg hx with ⟨hx, hl'⟩ | ⟨rfl, rfl⟩
    · rw [hst (List.mem_of_getElem? hx)]; exact h.zht j x hx ((hlv (by omega)).1 hl)
    · rw [b1, hs]; exact h.zht _ b hbg ((hlv (Nat.le_refl _)).1 hl)
  · intro pc τ hτ
    by_cases e : pc = C.code.length
    · subst e
      rw [tlen] at hτ
      split at hτ
      · rename_i hl; cases hτ; exact ⟨hsn, hz hl⟩
      · cases hτ
    · rw [toth pc e] at hτ; have := h.tl pc τ hτ; exact ⟨by omega, this.2⟩
  · intro pc τ x' hx' hτ
    have hlt : pc < C.code.length := by have := (List.getElem?_eq_some_iff.1 hx').1; omega
    rw [toth pc (by omega)] at hτ
    have hx : C.code[pc]? = some C.code[pc] := List.getElem?_eq_getElem hlt
    obtain ⟨y, h1, h2, h3, h4, h5⟩ := hstep pc _ hx
    rw [hx'] at h1; cases h1
    exact (h.ins pc τ _ hx hτ).mono hCL hTT (fun _ _ h => h) h2 h3 h4 h5
  · intro a t ha
    obtain ⟨q1, q2⟩ := h.gl a t ha
    refine ⟨by omega, ?_⟩
    rcases q2 with ⟨j, x, e1, e2, e3⟩ | ⟨e1, x, e2, e3, e4, e5⟩
    · have e1' := e1
      rw [he] at e1
      rcases app_get e1 with ⟨e1, hjl⟩ | ⟨rfl, rfl⟩
      · left
        refine ⟨j, x, by rw [he']; exact app_l e1, (hlv (by omega)).2 e2, ?_⟩
        rw [hst (List.mem_of_getElem? e1')]; exact e3
      · have hlt : liveTo l l.length := by rw [he] at e2; exact (live_app (Nat.le_refl _)).1 e2
        have hres : a ∈ L → (C'.st = t) → (Free C' a ∧ ∃ c, C'.code[a]? = some c ∧ 0 ≤ c.imm ∧ T' c.imm.toNat = some t ∧ (c.op = 4 → (a : Int) < c.imm)) := fun haL hct => by
          refine ⟨hfree a haL, _, hget a _ (List.getElem?_eq_getElem q1), ?_⟩
          rw [if_pos haL]
          refine ⟨by simp, ?_, fun _ => by simpa using q1⟩
          show T' ((C.code.length : Nat) : Int).toNat = _
          rw [Int.toNat_natCast, tlen, if_pos hlt, hct]
        rcases e3 with ⟨k1, k2⟩ | ⟨k1, k2⟩
        · rcases hW2 a (List.mem_append_left _ k1) with hh | hh
          · exact .inr (hres hh (by rw [k2]; exact (hL2 a hh).1 k1))
          · exact .inl ⟨l.length, b', by rw [he']; exact app_r, (hlv (Nat.le_refl _)).2 e2, .inl ⟨hh, by rw [b1, b2, hs]; exact k2⟩⟩
        · rcases hW2 a (by unfold pend; rw [k1]; simp) with hh | hh
          · exact .inr (hres hh (by rw [k2]; exact (hL2 a hh).2 k1))
          · exact absurd (hW a hh).1 (h.pw x hbm a k1)
    · right
      have haL : a ∉ L := fun hh => e1 b hbm (hL a hh)
      refine ⟨fun y hy hp => ?_, x, by rw [hget a x e2, if_neg haL], e3, hTT _ _ e4, e5⟩
      rcases hm y hy with ⟨hy, _⟩ | rfl
      · exact e1 y hy hp
      · exact e1 b hbm (hpb2 a hp)
  · intro x hx a ha
    have : ∃ c, C.code[a]? = some c ∧ jop c.op := by
      rcases hm x hx with ⟨hx, _⟩ | rfl
      · exact h.pj x hx a ha
      · exact h.pj b hbm a (hpb2 a ha)
    obtain ⟨y, h1, h2⟩ := this
    obtain ⟨y', g1, g2, _⟩ := hstep a y h1
    exact ⟨y', g1, by rw [g2]; exact h2⟩
  · intro i j y x z hy hx h3 h4
    rcases hg hy with ⟨hy, hl⟩ | ⟨e, rfl⟩ <;> rcases hg hx with ⟨hx, hl'⟩ | ⟨e', rfl⟩
    · exact h.pu i j y x z hy hx h3 h4
    · exact h.pu i j y b z hy (by rw [e']; exact hbg) h3 (hpb2 z h4)
    · exact h.pu i j b x z (by rw [e]; exact hbg) hx (hpb2 z h3) h4
    · omega
  · intro x hx a ha
    rcases hm x hx with ⟨hx, _⟩ | rfl
    · exact h.pw x hx a ha
    · rw [b6] at ha; cases ha
  · intro j x hx h0
    rw [hcl]
    rcases hg hx with ⟨hx, hl'⟩ | ⟨rfl, rfl⟩
    · obtain ⟨q1, q2⟩ := h.hd j x hx h0
      exact ⟨q1, fun hl => by rw [hst (List.mem_of_getElem? hx)]; exact hTT _ _ (q2 ((hlv (by omega)).1 hl))⟩
    · rw [b4] at h0
      obtain ⟨q1, q2⟩ := h.hd _ b hbg h0
      exact ⟨by rw [b4]; exact q1, fun hl => by rw [b4, b1, hs]; exact hTT _ _ (q2 ((hlv (Nat.le_refl _)).1 hl))⟩
  · intro x hx
    rcases hg hx with ⟨hx, hl'⟩ | ⟨e, rfl⟩
    · exact h.bot x hx
    · have := h.bot b (by rw [e]; exact hbg)
      rw [b2, b1, b4, b6]; exact ⟨this.1, this.2.1, this.2.2.1, rfl⟩
end Go.Wl
