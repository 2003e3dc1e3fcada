/- The plain instructions. -/
import Derived.Test.Qxb6500572aGreatDoorPValC
namespace Go.Wl
open Go Go.Sl
set_option linter.unusedVariables false
variable {P : Prog} {u : Fun} {n : Nat} {C C' : Chk} {T T' : Typ} {G G' : Goals} {c : Flat}
theorem VI.topm (h : VI P u n C T G) : C.opn[C.opn.length - 1]? = some C.top ∧ C.top ∈ C.opn := by
  have hp : 0 < C.opn.length := by cases hx : C.opn with
    | nil => exact absurd hx h.ne
    | cons a l => simp
  have : C.opn[C.opn.length - 1]? = some C.top := by
    unfold Chk.top; rw [List.getD_eq_getElem?_getD, List.getElem?_eq_getElem (by omega)]; rfl
  exact ⟨this, List.mem_of_getElem? this⟩
theorem VI.toph (h : VI P u n C T G) {b : Blk} (hb : b ∈ C.opn) : b.height ≤ C.top.height := by
  obtain ⟨j, hj, he⟩ := List.mem_iff_getElem.1 hb
  exact h.inc j (C.opn.length - 1) b C.top (by omega) (by rw [List.getElem?_eq_getElem hj, he]) h.topm.1
theorem VI.topl (h : VI P u n C T G) : C.top.height ≤ C.st.length := h.ht _ h.topm.2
theorem VI.lived (h : VI P u n C T G) (hl : Live C) : C.top.dead = false := hl _ _ (by have := (List.getElem?_eq_some_iff.1 h.topm.1).1; exact this) h.topm.1
open Classical in
theorem VI.lay (h : VI P u n C T G) {w : Nat → Nat → Prop} {es : List Flat} (hcode : C'.code = C.code ++ c :: es) (hO : OR C C' w)
    (hst : ∀ b, b ∈ C.opn → C'.st.take b.height = C.st.take b.height ∧ b.height ≤ C'.st.length) (hn : C'.st.length ≤ n + 1) (hz : Live C' → ty2 C'.st)
    (hw : ∀ a j, w a j → C.code.length ≤ a ∧ ∃ x, C'.code[a]? = some x ∧ jop x.op) (hwf : ∀ a i j, w a i → w a j → i = j) (gt : Goals)
    (g2 : ∀ a t, C.code.length ≤ a → gt a = some t → a < C'.code.length ∧ ((∃ (j : Nat) (b : Blk), w a j ∧ C.opn[j]? = some b ∧ liveTo C.opn j ∧ t = C.st.take b.height ++ b.res) ∨ ((∀ j, ¬ w a j) ∧ ∃ x, C'.code[a]? = some x ∧ 0 ≤ x.imm ∧ T x.imm.toNat = some t ∧ x.op ≠ 4)))
    (hix : Live C → ∀ (T' : Typ) (G' : Goals), (Live C' → T' C'.code.length = some C'.st) → (∀ a, C.code.length ≤ a → G' a = gt a) → IX P u C'.code T' G' C.code.length c C.st) : ∃ T' G', VI P u (n + 1) C' T' G' ∧ TLe T T' := by
  have hclen : C'.code.length = C.code.length + 1 + es.length := by rw [hcode]; simp; omega
  refine ⟨fun pc => if pc = C'.code.length then (if Live C' then some C'.st else none) else T pc, fun a => if C.code.length ≤ a then gt a else G a, ?_, fun a t ha => by
    dsimp only
    rw [if_neg]
    · exact ha
    · intro e
      rw [h.out a (by omega)] at ha
      cases ha⟩
  refine h.emit (T' := fun pc => if pc = C'.code.length then (if Live C' then some C'.st else none) else T pc) (G' := fun a => if C.code.length ≤ a then gt a else G a) hcode hO hst hn hz hw hwf ?_ ?_ ?_ ?_ ?_ ?_ ?_ ?_
  · intro pc hpc; rw [if_neg (by omega)]
  · intro pc h1 h2; rw [if_neg (by omega)]; exact h.out pc h1
  · intro hl; rw [if_pos rfl, if_pos hl]
  · intro hl; rw [if_pos rfl, if_neg hl]
  · intro pc hpc; rw [if_neg (by omega)]; exact h.out pc (by omega)
  · intro a ha; rw [if_neg (by omega)]
  · intro a t ha ht; rw [if_pos ha] at ht; exact g2 a t ha ht
  · intro hl
    refine hix hl _ _ (fun hl' => ?_) (fun a ha => ?_)
    · rw [if_pos rfl, if_pos hl']
    · rw [if_pos ha]
theorem OR.same (h : C'.opn = C.opn) : OR C C' (fun _ _ => False) := ⟨by rw [h], fun j b hb => ⟨b, by rw [h]; exact hb, rfl, rfl, rfl, rfl, rfl, fun _ => rfl, fun x => x, by simp⟩⟩
theorem live_same (h : C'.opn = C.opn) : Live C' ↔ Live C := by unfold Live; rw [h]
/-- An instruction that pops to st1 and gives o. -/
theorem VI.plain (h : VI P u n C T G) {C1 : Chk} (hp : Pop C C1) {o : List UInt8} (ho : ty2 o ∨ ¬ Live C) (hol : o.length ≤ 1) (hnj : ¬ jop c.op)
    (hix : Live C → ∀ (T' : Typ) (G' : Goals), T' (C.code.length + 1) = some (C1.st ++ o) → IX P u (C.code ++ [c]) T' G' C.code.length c C.st) : ∃ T' G', VI P u (n + 1) (hole { C1 with st := C1.st ++ o } c) T' G' ∧ TLe T T' := by
  obtain ⟨x, hx⟩ := hp.pre
  have hopn : (hole { C1 with st := C1.st ++ o } c).opn = C.opn := hp.opn
  have hcode : (hole { C1 with st := C1.st ++ o } c).code = C.code ++ [c] := by show C1.code ++ [c] = _; rw [hp.code]
  have hth := hp.ht
  refine (h.lay (C' := hole { C1 with st := C1.st ++ o } c) (c := c) (w := fun _ _ => False) (es := []) hcode (OR.same hopn) (fun b hb => ?_) ?_ (fun hl => ?_) (fun a j hw => hw.elim) (fun a i j hw => hw.elim) (fun _ => none) (fun a t _ ht => by cases ht) (fun hl T' G' h1 _ => ?_))
  · have hb1 := h.toph hb
    have hlen := congrArg List.length hx
    simp only [List.length_append] at hlen
    refine ⟨?_, by show b.height ≤ (C1.st ++ o).length; simp; omega⟩
    show (C1.st ++ o).take b.height = _
    rw [hx, List.take_append_of_le_length (by omega), List.take_append_of_le_length (by omega)]
  · show (C1.st ++ o).length ≤ n + 1
    have := hp.len; have := h.stn
    simp; omega
  · have hl0 := (live_same hopn).1 hl
    have hz := h.zst hl0
    intro t ht
    rcases List.mem_append.1 (show t ∈ C1.st ++ o from ht) with ht | ht
    · exact hz t (by rw [hx]; exact List.mem_append_left _ ht)
    · exact (ho.resolve_right (fun hn => hn hl0)) t ht
  · rw [hcode]
    have h1' := h1 ((live_same hopn).2 hl)
    rw [hcode] at h1'
    exact hix hl T' G' (by rw [List.length_append] at h1'; exact h1')
/-- An instruction that leaves the block for good. -/
theorem OR.dead {C1 : Chk} (hp : Pop C C1) (st : List UInt8) (code : List Flat) (hne : C.opn ≠ []) (htop : C.opn[C.opn.length - 1]? = some C.top) : OR C { C1.setTop { C1.top with dead := true } with st := st, code := code } (fun _ _ => False) := by
  have hpos : 0 < C.opn.length := (List.getElem?_eq_some_iff.1 htop).1 |> fun x => by omega
  refine ⟨by show (C1.opn.set _ _).length = _; rw [List.length_set, hp.opn], fun j b hb => ?_⟩
  have hj := (List.getElem?_eq_some_iff.1 hb).1
  by_cases e : j = C.opn.length - 1
  · subst e
    rw [htop] at hb; cases hb
    refine ⟨{ C.top with dead := true }, ?_, rfl, rfl, rfl, rfl, rfl, fun hh => by omega, fun _ => rfl, by simp⟩
    show (C1.opn.set (C1.opn.length - 1) _)[C.opn.length - 1]? = _
    rw [hp.opn, hp.top, List.getElem?_set_self (by omega)]
  · refine ⟨b, ?_, rfl, rfl, rfl, rfl, rfl, fun _ => rfl, fun x => x, by simp⟩
    show (C1.opn.set (C1.opn.length - 1) _)[j]? = _
    rw [hp.opn, List.getElem?_set_ne (fun h => e h.symm)]; exact hb
theorem dead_live {C1 : Chk} (hp : Pop C C1) (hne : C.opn ≠ []) {C2 : Chk} (ho : C2.opn = (C1.setTop { C1.top with dead := true }).opn) : ¬ Live C2 := by
  intro hl
  have hpos : 0 < C.opn.length := by cases hx : C.opn with
    | nil => exact absurd hx hne
    | cons a l => simp
  have := hl (C.opn.length - 1) { C1.top with dead := true } (by rw [ho]; show _ < (C1.opn.set _ _).length; rw [List.length_set, hp.opn]; omega) (by rw [ho]; show (C1.opn.set (C1.opn.length - 1) _)[_]? = _; rw [hp.opn, List.getElem?_set_self (by omega)])
  cases this
theorem VI.gone (h : VI P u n C T G) {C1 : Chk} (hp : Pop C C1) (hnj : ¬ jop c.op) (hix : Live C → ∀ (T' : Typ) (G' : Goals), IX P u (C.code ++ [c]) T' G' C.code.length c C.st) :
    ∃ T' G', VI P u (n + 1) (hole { C1.setTop { C1.top with dead := true } with st := C1.st.take C1.top.height } c) T' G' ∧ TLe T T' := by
  obtain ⟨x, hx⟩ := hp.pre
  have hcode : (hole { C1.setTop { C1.top with dead := true } with st := C1.st.take C1.top.height } c).code = C.code ++ [c] := by show C1.code ++ [c] = _; rw [hp.code]
  have hth := hp.ht
  have hO : OR C (hole { C1.setTop { C1.top with dead := true } with st := C1.st.take C1.top.height } c) (fun _ _ => False) := OR.dead hp _ _ h.ne h.topm.1
  have hnl : ¬ Live (hole { C1.setTop { C1.top with dead := true } with st := C1.st.take C1.top.height } c) := dead_live hp h.ne rfl
  refine (h.lay (w := fun _ _ => False) (c := c) (es := []) hcode hO (fun b hb => ?_) ?_ (fun hl => absurd hl hnl) (fun a j hw => hw.elim) (fun a i j hw => hw.elim) (fun _ => none) (fun a t _ ht => by cases ht) (fun hl T' G' _ _ => by rw [hcode]; exact hix hl T' G'))
  · have hb1 := h.toph hb
    have hlen := congrArg List.length hx
    simp only [List.length_append] at hlen
    refine ⟨?_, by show b.height ≤ (C1.st.take C1.top.height).length; rw [List.length_take, hp.top]; omega⟩
    show (C1.st.take C1.top.height).take b.height = _
    rw [List.take_take, hp.top, Nat.min_eq_left hb1, hx, List.take_append_of_le_length (by omega)]
  · show (C1.st.take C1.top.height).length ≤ n + 1
    have := hp.len; have := h.stn
    rw [List.length_take]; omega
end Go.Wl
