/- Blocks open and close. -/
import Derived.Test.Qxb6500572aGreatDoorPValH
namespace Go.Wl
open Go Go.Sl
set_option linter.unusedVariables false
variable {P : Prog} {u : Fun} {n : Nat} {C C1 C2 C' : Chk} {T T' : Typ} {G G' : Goals} {fs : List Fun} {c : Ins} {w : Nat → Nat → Prop} {l : List Blk} {b b' : Blk}
theorem app_get {j : Nat} {x : Blk} (h : (l ++ [b])[j]? = some x) : (l[j]? = some x ∧ j < l.length) ∨ (j = l.length ∧ x = b) := by
  by_cases hj : j < l.length
  · rw [List.getElem?_append_left hj] at h; exact .inl ⟨h, hj⟩
  · rw [List.getElem?_append_right (by omega)] at h
    have := (List.getElem?_eq_some_iff.1 h).1
    simp at this
    have e : j = l.length := by omega
    subst e
    simp at h
    exact .inr ⟨rfl, h.symm⟩
theorem app_l {j : Nat} {x : Blk} (h : l[j]? = some x) : (l ++ [b])[j]? = some x := by rw [List.getElem?_append_left (List.getElem?_eq_some_iff.1 h).1]; exact h
theorem app_r : (l ++ [b])[l.length]? = some b := by simp
theorem live_app {j : Nat} (hj : j ≤ l.length) : liveTo (l ++ [b]) j ↔ liveTo l j := by
  constructor
  · exact fun h i x hi hx => h i x hi (app_l hx)
  · intro h i x hi hx
    rcases app_get hx with ⟨hx, _⟩ | ⟨e, _⟩
    · exact h i x hi hx
    · omega
theorem live_all (h : C.opn = l ++ [b]) : Live C ↔ liveTo l l.length ∧ b.dead = false := by
  unfold Live; rw [h]
  constructor
  · exact fun hh => ⟨(live_app (Nat.le_refl _)).1 (fun i x hi hx => hh i x (by simp; omega) hx), hh l.length b (by simp) app_r⟩
  · rintro ⟨h1, h2⟩ i x hi hx
    rcases app_get hx with ⟨hx, hl⟩ | ⟨_, e⟩
    · exact h1 i x hl hx
    · rw [e]; exact h2
theorem VI.push (h : VI P u n C T G) (hw : b.wait = []) (ha : b.alt = none) (hd : b.dead = false) (h1 : C.top.height ≤ b.height) (h2 : b.height ≤ C.st.length)
    (hr : b.res.length ≤ 1 ∧ ty2 b.res ∧ (b.head < 0 → b.carry = b.res) ∧ (0 ≤ b.head → b.carry = [])) (hh : 0 ≤ b.head → b.head.toNat ≤ C.code.length ∧ (Live C → T b.head.toNat = some (C.st.take b.height))) : VI P u n { C with opn := C.opn ++ [b] } T G := by
  have hp : pend b = [] := by unfold pend; rw [hw, ha]; rfl
  have hL : Live { C with opn := C.opn ++ [b] } ↔ Live C := by rw [live_all (C := { C with opn := C.opn ++ [b] }) (l := C.opn) (b := b) rfl, hd]; simp [Live]
  have hm : ∀ x, x ∈ C.opn ++ [b] → x ∈ C.opn ∨ x = b := fun x hx => by simpa using hx
  refine ⟨by simp, ?_, ?_, ?_, h.stn, fun hl => h.zst (hL.1 hl), ?_, fun hl => h.cur (hL.1 hl), fun hl => h.curN (fun x => hl (hL.2 x)), h.out, h.tl, h.ins, ?_, ?_, ?_, ?_, ?_, ?_, h.z0⟩
  · intro x hx
    rcases hm x hx with hx | rfl
    · exact h.ht x hx
    · exact h2
  · intro i j a x hij ha' hx
    rcases app_get ha' with ⟨q, hl⟩ | ⟨e, rfl⟩ <;> rcases app_get hx with ⟨q', hl'⟩ | ⟨e', rfl⟩
    · exact h.inc i j a x hij q q'
    · exact Nat.le_trans (h.toph (List.mem_of_getElem? q)) h1
    · omega
    · exact Nat.le_refl _
  · intro x hx
    rcases hm x hx with hx | rfl
    · exact h.res x hx
    · exact hr
  · intro j x hx hl
    rcases app_get hx with ⟨hx, hl'⟩ | ⟨rfl, rfl⟩
    · exact h.zht j x hx ((live_app (by omega)).1 hl)
    · have := h.zst (C := C) ((live_app (Nat.le_refl _)).1 hl)
      exact fun t ht => this t (List.mem_of_mem_take ht)
  · intro a t ha'
    obtain ⟨q1, q2⟩ := h.gl a t ha'
    refine ⟨q1, ?_⟩
    rcases q2 with ⟨j, x, e1, e2, e3⟩ | ⟨e1, e2⟩
    · exact .inl ⟨j, x, app_l e1, (live_app (Nat.le_of_lt (List.getElem?_eq_some_iff.1 e1).1)).2 e2, e3⟩
    · refine .inr ⟨fun x hx => ?_, e2⟩
      rcases hm x hx with hx | rfl
      · exact e1 x hx
      · rw [hp]; simp
  · intro x hx a ha'
    rcases hm x hx with hx | rfl
    · exact h.pj x hx a ha'
    · rw [hp] at ha'; simp at ha'
  · intro i j a x y ha' hx h3 h4
    rcases app_get ha' with ⟨q, hl⟩ | ⟨e, rfl⟩ <;> rcases app_get hx with ⟨q', hl'⟩ | ⟨e', rfl⟩
    · exact h.pu i j a x y q q' h3 h4
    · rw [hp] at h4; simp at h4
    · rw [hp] at h3; simp at h3
    · omega
  · intro x hx a ha'
    rcases hm x hx with hx | rfl
    · exact h.pw x hx a ha'
    · rw [ha] at ha'; cases ha'
  · intro j x hx h0
    rcases app_get hx with ⟨hx, hl'⟩ | ⟨rfl, rfl⟩
    · obtain ⟨q1, q2⟩ := h.hd j x hx h0
      exact ⟨q1, fun hl => q2 ((live_app (by omega)).1 hl)⟩
    · obtain ⟨q1, q2⟩ := hh h0
      exact ⟨q1, fun hl => q2 ((live_app (Nat.le_refl _)).1 hl)⟩
  · intro x hx
    rcases app_get hx with ⟨hx, hl'⟩ | ⟨e, rfl⟩
    · exact h.bot x hx
    · exact absurd (List.eq_nil_of_length_eq_zero e.symm) h.ne
theorem VI.drop (h : VI P u n C T G) (he : C.opn = l ++ [b]) (hne : l ≠ []) (hw : b.wait = []) (ha : b.alt = none) (hd : b.dead = false) : VI P u n { C with opn := l } T G := by
  have hp : pend b = [] := by unfold pend; rw [hw, ha]; rfl
  have hL : Live { C with opn := l } ↔ Live C := by rw [live_all he, hd]; simp [Live]
  have hm : ∀ x, x ∈ l → x ∈ C.opn := fun x hx => by rw [he]; exact List.mem_append_left _ hx
  have hg : ∀ {j : Nat} {x : Blk}, l[j]? = some x → C.opn[j]? = some x := fun hx => by rw [he]; exact app_l hx
  have hlv : ∀ {j : Nat} {x : Blk}, l[j]? = some x → liveTo l j → liveTo C.opn j := fun hx hl => by rw [he]; exact (live_app (Nat.le_of_lt (List.getElem?_eq_some_iff.1 hx).1)).2 hl
  refine ⟨hne, fun x hx => h.ht x (hm x hx), fun i j a x hij ha' hx => h.inc i j a x hij (hg ha') (hg hx), fun x hx => h.res x (hm x hx), h.stn, fun hl => h.zst (hL.1 hl), fun j x hx hl => h.zht j x (hg hx) (hlv hx hl), fun hl => h.cur (hL.1 hl), fun hl => h.curN (fun x => hl (hL.2 x)), h.out, h.tl, h.ins, ?_,
    fun x hx => h.pj x (hm x hx), fun i j a x y ha' hx => h.pu i j a x y (hg ha') (hg hx), fun x hx => h.pw x (hm x hx), fun j x hx h0 => ?_, fun x hx => h.bot x (hg hx), h.z0⟩
  · intro a t ha'
    obtain ⟨q1, q2⟩ := h.gl a t ha'
    refine ⟨q1, ?_⟩
    rcases q2 with ⟨j, x, e1, e2, e3⟩ | ⟨e1, e2⟩
    · rw [he] at e1 e2
      rcases app_get e1 with ⟨e1, hl'⟩ | ⟨rfl, rfl⟩
      · exact .inl ⟨j, x, e1, (live_app (b := b) (Nat.le_of_lt hl')).1 e2, e3⟩
      · rw [hw, ha] at e3
        rcases e3 with ⟨e3, _⟩ | ⟨e3, _⟩
        · simp at e3
        · cases e3
    · exact .inr ⟨fun x hx => e1 x (hm x hx), e2⟩
  · obtain ⟨q1, q2⟩ := h.hd j x (hg hx) h0
    exact ⟨q1, fun hl => q2 (hlv hx hl)⟩
/-- A wait turned into an 'alt'. -/
theorem VI.flip (h : VI P u n C T G) (he : C.opn = l ++ [b]) (hne : l ≠ []) {a : Nat} (hw : b.wait = [a]) (hr0 : b.res = []) (hh : b.head < 0) (ha : b.alt = none) {r : List UInt8} (hr : r.length ≤ 1 ∧ ty2 r) (he' : C'.opn = l ++ [{ b with res := r, carry := r, wait := [], alt := some a }]) (ec : C'.code = C.code) (es : C'.st = C.st) : VI P u n C' T G := by
  obtain ⟨b', hb'⟩ : ∃ b', ({ b with res := r, carry := r, wait := [], alt := some a } : Blk) = b' := ⟨_, rfl⟩
  have e1 : b'.height = b.height := by rw [← hb']
  have e2 : b'.dead = b.dead := by rw [← hb']
  have e3 : b'.head = b.head := by rw [← hb']
  have e4 : b'.alt = some a := by rw [← hb']
  have e5 : b'.wait = [] := by rw [← hb']
  have e6 : b'.res = r ∧ b'.carry = r := by rw [← hb']; exact ⟨rfl, rfl⟩
  rw [hb'] at he'
  have hp : pend b' = pend b := by unfold pend; rw [e4, e5, hw, ha]; rfl
  have hL : Live C' ↔ Live C := by rw [live_all he, live_all he', e2]
  have hbm : b ∈ C.opn := by rw [he]; simp
  have hm : ∀ x, x ∈ C'.opn → x ∈ C.opn ∨ x = b' := fun x hx => by
    rw [he'] at hx; rw [he]
    rcases List.mem_append.1 hx with hx | hx
    · exact .inl (List.mem_append_left _ hx)
    · exact .inr (by simpa using hx)
  have hg : ∀ {j : Nat} {x : Blk}, C'.opn[j]? = some x → (C.opn[j]? = some x ∧ j < l.length) ∨ (j = l.length ∧ x = b') := fun hx => by
    rw [he'] at hx
    rcases app_get hx with ⟨hx, hl⟩ | hx
    · exact .inl ⟨by rw [he]; exact app_l hx, hl⟩
    · exact .inr hx
  have hbg : C.opn[l.length]? = some b := by rw [he]; exact app_r
  have hlv : ∀ {j : Nat}, j ≤ l.length → (liveTo C'.opn j ↔ liveTo C.opn j) := fun hj => by rw [he, he', live_app hj, live_app hj]
  refine ⟨by rw [he']; simp, ?_, ?_, ?_, by rw [es]; exact h.stn, fun hl => by rw [es]; exact h.zst (hL.1 hl), ?_, fun hl => by rw [ec, es]; exact h.cur (hL.1 hl), fun hl => by rw [ec]; exact h.curN (fun x => hl (hL.2 x)), by rw [ec]; exact h.out, h.tl, by rw [ec]; exact h.ins, ?_, ?_, ?_, ?_, ?_, ?_, h.z0⟩
  · intro x hx
    rw [es]
    rcases hm x hx with hx | rfl
    · exact h.ht x hx
    · rw [e1]; exact h.ht b hbm
  · intro i j y x hij hy hx
    rcases hg hy with ⟨hy, hl⟩ | ⟨e, rfl⟩ <;> rcases hg hx with ⟨hx, hl'⟩ | ⟨e', rfl⟩
    · exact h.inc i j y x hij hy hx
    · rw [e1]; exact h.inc i j y b hij hy (by rw [e']; exact hbg)
    · omega
    · exact Nat.le_refl _
  · intro x hx
    rcases hm x hx with hx | rfl
    · exact h.res x hx
    · rw [e6.1, e6.2, e3]; exact ⟨hr.1, hr.2, fun _ => rfl, fun h0 => by omega⟩
  · intro j x hx hl
    rw [es]
    rcases hg hx with ⟨hx, hl'⟩ | ⟨rfl, rfl⟩
    · exact h.zht j x hx ((hlv (by omega)).1 hl)
    · rw [e1]; exact h.zht _ b hbg ((hlv (Nat.le_refl _)).1 hl)
  · intro x t ht
    obtain ⟨q1, q2⟩ := h.gl x t ht
    refine ⟨by rw [ec]; exact q1, ?_⟩
    rcases q2 with ⟨j, y, k1, k2, k3⟩ | ⟨k1, k2⟩
    · left
      have k1' := k1
      rw [he] at k1
      rcases app_get k1 with ⟨k1, hl⟩ | ⟨rfl, rfl⟩
      · exact ⟨j, y, by rw [he']; exact app_l k1, (hlv (by omega)).2 k2, by rw [es]; exact k3⟩
      · refine ⟨l.length, b', by rw [he']; exact app_r, (hlv (Nat.le_refl _)).2 k2, .inr ?_⟩
        rw [e4, e1, es]
        rcases k3 with ⟨k3, k4⟩ | ⟨k3, _⟩
        · rw [hw] at k3; simp at k3; rw [k3]; exact ⟨rfl, by rw [k4, hr0, List.append_nil]⟩
        · rw [ha] at k3; cases k3
    · right
      refine ⟨fun y hy => ?_, by rw [ec]; exact k2⟩
      rcases hm y hy with hy | rfl
      · exact k1 y hy
      · rw [hp]; exact k1 b hbm
  · intro x hx y hy
    rw [ec]
    rcases hm x hx with hx | rfl
    · exact h.pj x hx y hy
    · rw [hp] at hy; exact h.pj b hbm y hy
  · intro i j y x z hy hx h3 h4
    rcases hg hy with ⟨hy, hl⟩ | ⟨e, rfl⟩ <;> rcases hg hx with ⟨hx, hl'⟩ | ⟨e', rfl⟩
    · exact h.pu i j y x z hy hx h3 h4
    · rw [hp] at h4; exact h.pu i j y b z hy (by rw [e']; exact hbg) h3 h4
    · rw [hp] at h3; exact h.pu i j b x z (by rw [e]; exact hbg) hx h3 h4
    · omega
  · intro x hx y hy
    rcases hm x hx with hx | rfl
    · exact h.pw x hx y hy
    · rw [e5]; simp
  · intro j x hx h0
    rw [ec, es]
    rcases hg hx with ⟨hx, hl'⟩ | ⟨rfl, rfl⟩
    · obtain ⟨q1, q2⟩ := h.hd j x hx h0
      exact ⟨q1, fun hl => q2 ((hlv (by omega)).1 hl)⟩
    · rw [e3] at h0; omega
  · intro x hx
    rcases hg hx with ⟨hx, hl'⟩ | ⟨e, rfl⟩
    · exact h.bot x hx
    · exact absurd (List.eq_nil_of_length_eq_zero e.symm) hne
end Go.Wl
