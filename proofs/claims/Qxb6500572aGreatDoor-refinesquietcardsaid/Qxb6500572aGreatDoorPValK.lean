/- Entering, turning, leaving. -/
import Derived.Test.Qxb6500572aGreatDoorPValJ
namespace Go.Wl
open Go Go.Sl
set_option linter.unusedVariables false
variable {P : Prog} {u : Fun} {n : Nat} {C C1 C2 C' : Chk} {T T' : Typ} {G G' : Goals} {fs : List Fun} {c : Ins} {w : Nat → Nat → Prop} {l : List Blk} {b b' : Blk}
theorem resOf_ok {i : Int} (h : i = 0 ∨ i = 105 ∨ i = 108) : (resOf i).length ≤ 1 ∧ ty2 (resOf i) := by
  rcases h with e | e | e <;> subst e <;> refine ⟨by decide, fun t ht => ?_⟩
  · simp [resOf] at ht
  · exact .inl (by simpa [resOf] using ht)
  · exact .inr (by simpa [resOf] using ht)
theorem VI.last (h : VI P u n C T G) : ∃ l, C.opn = l ++ [C.top] ∧ l.length = C.opn.length - 1 ∧ C.opn.take (C.opn.length - 1) = l := by
  have hp := (List.getElem?_eq_some_iff.1 h.topm.1).1
  refine ⟨C.opn.take (C.opn.length - 1), ?_, by rw [List.length_take]; omega, rfl⟩
  conv => lhs; rw [← List.take_append_drop (C.opn.length - 1) C.opn]
  rw [List.drop_eq_getElem_cons hp, List.drop_eq_nil_of_le (by omega)]
  have := (List.getElem?_eq_some_iff.1 h.topm.1).2
  rw [this]
theorem OR.set (he : C.opn = l ++ [b]) (he' : C'.opn = l ++ [b']) (b1 : b'.height = b.height) (b2 : b'.res = b.res) (b3 : b'.carry = b.carry) (b4 : b'.head = b.head) (b6 : b'.alt = b.alt) (b5 : b.dead = true → b'.dead = true) {x : Nat} (hw : b'.wait = b.wait ++ [x]) : OR C C' (fun a j => a = x ∧ j = l.length) := by
  refine ⟨by rw [he, he']; simp, fun j y hy => ?_⟩
  rw [he] at hy
  rcases app_get hy with ⟨hy, hl⟩ | ⟨rfl, rfl⟩
  · refine ⟨y, by rw [he']; exact app_l hy, rfl, rfl, rfl, rfl, rfl, fun _ => rfl, fun x => x, fun a => ?_⟩
    constructor
    · exact .inl
    · rintro (q | ⟨_, q⟩)
      · exact q
      · omega
  · refine ⟨b', by rw [he']; exact app_r, b1, b2, b3, b4, b6, fun hh => by rw [he] at hh; simp at hh, b5, fun a => ?_⟩
    rw [hw]; simp
open Classical in
theorem VI.enter (h : VI P u n C T G) (hop : c.op = 1 ∨ c.op = 2 ∨ c.op = 3) (him : c.imm = 0 ∨ c.imm = 105 ∨ c.imm = 108) (he : (enter C c).2 = 0) : ∃ T' G', VI P u (n + 1) (enter C c).1 T' G' ∧ TLe T T' := by
  obtain ⟨hr1, hr2⟩ := resOf_ok him
  unfold Wl.enter at he ⊢
  by_cases h2 : c.op = 2
  · rw [if_pos h2]
    exact ⟨T, G, (h.push rfl rfl rfl h.topl (Nat.le_refl _) ⟨hr1, hr2, fun e => by dsimp only at e; omega, fun _ => rfl⟩ (fun _ => ⟨by simp, fun hl => by simpa using h.cur hl⟩)).le (by omega), TLe.refl T⟩
  · rw [if_neg h2] at he ⊢
    by_cases h3 : c.op = 3
    · rw [if_pos h3] at he ⊢
      dsimp only at he ⊢
      have hp := pops_P (l := [105]) h.topl
      obtain ⟨Q, hQ⟩ : ∃ Q, pops C [105] = Q := ⟨_, rfl⟩
      rw [hQ] at he hp ⊢
      obtain ⟨C1, e1⟩ := Q
      dsimp only at he hp ⊢
      obtain ⟨x, hx⟩ := hp.pre
      have hth := hp.ht
      have hxl := congrArg List.length hx
      rw [List.length_append] at hxl
      have hv := h.push (b := ⟨[], [], C1.st.length, -1, false, none, []⟩) rfl rfl rfl hth (by dsimp only; omega) ⟨by simp, fun t ht => by simp at ht, fun _ => rfl, fun _ => rfl⟩ (fun h0 => by dsimp only at h0; omega)
      have hLa : Live { C with opn := C.opn ++ [(⟨[], [], C1.st.length, -1, false, none, []⟩ : Blk)] } ↔ Live C := (live_all (l := C.opn) (b := ⟨[], [], C1.st.length, -1, false, none, []⟩) rfl).trans (by simp [Live])
      have hLb : Live (⟨C1.st, C.opn ++ [⟨[], [], C1.st.length, -1, false, none, [C.code.length]⟩], C.code ++ [⟨3, -1, 0, 0⟩]⟩ : Chk) ↔ Live C := (live_all (l := C.opn) (b := ⟨[], [], C1.st.length, -1, false, none, [C.code.length]⟩) rfl).trans (by simp [Live])
      have hg0 : (C.code ++ [(⟨3, -1, 0, 0⟩ : Flat)])[C.code.length]? = some ⟨3, -1, 0, 0⟩ := by simp
      have hvb := hv.lay (C' := ⟨C1.st, C.opn ++ [⟨[], [], C1.st.length, -1, false, none, [C.code.length]⟩], C.code ++ [⟨3, -1, 0, 0⟩]⟩) (c := ⟨3, -1, 0, 0⟩) (es := []) rfl (OR.set (l := C.opn) (b := ⟨[], [], C1.st.length, -1, false, none, []⟩) (b' := ⟨[], [], C1.st.length, -1, false, none, [C.code.length]⟩) rfl rfl rfl rfl rfl rfl rfl (fun e => e) rfl) ?_ ?_ ?_ ?_ ?_ (fun a => if a = C.code.length ∧ Live C then some C1.st else none) ?_ ?_
      · obtain ⟨T', G', hvb, hle⟩ := hvb
        refine ⟨T', G', ?_, hle⟩
        refine VI.flip (a := C.code.length) (r := resOf c.imm) hvb (l := C.opn) (b := ⟨[], [], C1.st.length, -1, false, none, [C.code.length]⟩) rfl h.ne rfl rfl (show (-1 : Int) < 0 by decide) rfl ⟨hr1, hr2⟩ ?_ ?_ ?_
        · show C1.opn ++ _ = _
          rw [hp.opn, hp.code]; rfl
        · show C1.code ++ _ = _
          rw [hp.code]
        · rfl
      · intro y hy
        have hyl : y.height ≤ C1.st.length := by
          rcases List.mem_append.1 (show y ∈ C.opn ++ [_] from hy) with hy | hy
          · exact Nat.le_trans (h.toph hy) hth
          · simp at hy; rw [hy]; exact Nat.le_refl _
        refine ⟨?_, hyl⟩
        show C1.st.take y.height = C.st.take y.height
        rw [hx, List.take_append_of_le_length hyl]
      · show C1.st.length ≤ n + 1
        have := h.stn; omega
      · intro hl t ht
        exact h.zst (hLb.1 hl) t (by rw [hx]; exact List.mem_append_left _ ht)
      · rintro a j ⟨rfl, rfl⟩
        exact ⟨Nat.le_refl _, _, hg0, by unfold jop; simp⟩
      · rintro a i j ⟨_, e⟩ ⟨_, e'⟩
        exact e.trans e'.symm
      · intro a t ha hg
        split at hg
        · rename_i hh
          obtain ⟨rfl, hl⟩ := hh
          cases hg
          refine ⟨by simp, .inl ⟨C.opn.length, _, ⟨rfl, rfl⟩, app_r, (live_app (Nat.le_refl _)).2 hl, ?_⟩⟩
          show C1.st = C.st.take C1.st.length ++ []
          rw [hx]; simp
        · cases hg
      · intro hl T' G' h1 h2'
        have hl0 := hLa.1 hl
        have hst := pops_live h.topl (h.lived hl0) (h.zst hl0) (l := [105]) (fun t ht => by simp at ht; exact .inl ht) (by rw [hQ]; exact he)
        rw [hQ] at hst
        have hT := h1 (hLb.2 hl0)
        have hG := h2' C.code.length (Nat.le_refl _)
        rw [if_pos ⟨rfl, hl0⟩] at hG
        have h3' : ∃ τ', C.st = τ' ++ [105] ∧ T' (C.code.length + 1) = some τ' ∧ G' C.code.length = some τ' := ⟨C1.st, hst, by simpa using hT, hG⟩
        exact ⟨fun _ => h3', fun hh => by dsimp only at hh; omega, fun hh => by dsimp only at hh; omega, fun hh => by dsimp only at hh; omega, fun hh => by dsimp only at hh; omega, fun hh => by dsimp only at hh; omega, fun hh => by dsimp only at hh; omega, fun hh => by dsimp only at hh; omega, fun hh => by dsimp only at hh; omega, fun hh => by dsimp only at hh; omega, fun hh => by dsimp only at hh; omega, fun hh => by dsimp only at hh; omega⟩
    · rw [if_neg h3]
      exact ⟨T, G, (h.push rfl rfl rfl h.topl (Nat.le_refl _) ⟨hr1, hr2, fun _ => rfl, fun e => by dsimp only at e; omega⟩ (fun e => by dsimp only at e; omega)).le (by omega), TLe.refl T⟩
/-- What closing finds. -/
theorem VI.closes (h : VI P u n C T G) (he : (closes C).2 = 0) : Pop C (closes C).1 ∧ (closes C).1.st.length = C.top.height ∧ (closes C).1.st = C.st.take C.top.height ∧ (Live C → C.st = (closes C).1.st ++ C.top.res) := by
  unfold Wl.closes at he ⊢
  dsimp only at he ⊢
  have hp := pops_P (l := C.top.res) h.topl
  split at he
  · rename_i hl
    obtain ⟨x, hx⟩ := hp.pre
    refine ⟨hp, hl, ?_, fun hL => ?_⟩
    · rw [hx, ← hl, List.take_left]
    · exact pops_live h.topl (h.lived hL) (h.zst hL) (h.res _ h.topm.2).2.1 he
  · cases he
open Classical in
theorem VI.turn (h : VI P u n C T G) {al : Nat} (hal : C.top.alt = some al) (he : (turn C).2 = 0) : ∃ T' G', VI P u (n + 1) (turn C).1 T' G' ∧ TLe T T' := by
  have he' : (Wl.closes C).2 = 0 := he
  obtain ⟨hp, hlen, hst, hlv⟩ := h.closes he'
  obtain ⟨l, hlo, hll, htk⟩ := h.last
  rw [turn_eq]
  obtain ⟨C1, hC1⟩ : ∃ C1, (Wl.closes C).1 = C1 := ⟨_, rfl⟩
  rw [hC1] at hp hlen hst hlv ⊢
  have htop := hp.top
  obtain ⟨b, hb⟩ : ∃ b, C.top = b := ⟨_, rfl⟩
  rw [hb] at hal hlo hlen hst hlv
  rw [htop, hb, hal]
  have hbm : b ∈ C.opn := by rw [hlo]; simp
  have hnl : ¬ Live (⟨C1.st, l ++ [{ b with wait := b.wait ++ [C.code.length], dead := true }], C.code ++ [⟨4, -1, 0, 0⟩]⟩ : Chk) := by
    intro hh
    have := ((live_all (l := l) (b := { b with wait := b.wait ++ [C.code.length], dead := true }) rfl).1 hh).2
    cases this
  have hg0 : (C.code ++ [(⟨4, -1, 0, 0⟩ : Flat)])[C.code.length]? = some ⟨4, -1, 0, 0⟩ := by simp
  have hv1 := h.lay (C' := ⟨C1.st, l ++ [{ b with wait := b.wait ++ [C.code.length], dead := true }], C.code ++ [⟨4, -1, 0, 0⟩]⟩) (c := ⟨4, -1, 0, 0⟩) (es := []) rfl (OR.set hlo (b' := { b with wait := b.wait ++ [C.code.length], dead := true }) rfl rfl rfl rfl rfl rfl (fun _ => rfl) rfl) ?_ ?_ (fun hl => absurd hl hnl) ?_ ?_ (fun a => if a = C.code.length ∧ Live C then some C.st else none) ?_ ?_
  · obtain ⟨T1, G1, hv1, hle1⟩ := hv1
    have hpw := hv1.pw { b with wait := b.wait ++ [C.code.length], dead := true } (by simp) al hal
    have hv2 := hv1.resolve (Nat.le_refl _) (L := [al]) (l := l) (b := { b with wait := b.wait ++ [C.code.length], dead := true }) (b' := { b with wait := b.wait ++ [C.code.length], alt := none, dead := false })
      (C' := ⟨C1.st, l ++ [{ b with wait := b.wait ++ [C.code.length], alt := none, dead := false }], fillC (C.code ++ [⟨4, -1, 0, 0⟩]) [al] (C.code ++ [(⟨4, -1, 0, 0⟩ : Flat)]).length⟩) rfl rfl rfl rfl rfl rfl rfl rfl ?_ ?_ ?_ rfl rfl ?_ ?_ ?_ (fun hl => absurd hl hnl) ?_
    · obtain ⟨T2, hv2, hle2⟩ := hv2
      refine ⟨T2, G1, ?_, hle1.trans hle2⟩
      have : (fillO (hole C1 ⟨4, -1, 0, 0⟩) (some al) ↑(hole C1 ⟨4, -1, 0, 0⟩).code.length).setTop { b with wait := b.wait ++ [C1.code.length], alt := none, dead := false } = ⟨C1.st, l ++ [{ b with wait := b.wait ++ [C.code.length], alt := none, dead := false }], fillC (C.code ++ [⟨4, -1, 0, 0⟩]) [al] (C.code ++ [(⟨4, -1, 0, 0⟩ : Flat)]).length⟩ := by
        unfold fillO fill hole Chk.setTop fillC
        dsimp only
        rw [hp.opn, hp.code, hlo]
        simp
      rw [this]
      exact hv2
    · intro a ha
      refine ⟨ha, fun hh => ?_⟩
      simp at hh; subst hh; exact hpw ha
    · intro a ha
      unfold pend at ha
      rcases List.mem_append.1 ha with ha | ha
      · exact .inr ha
      · dsimp only at ha; rw [hal] at ha; exact .inl (by simpa using ha)
    · intro a ha
      simp at ha; subst ha
      unfold pend; dsimp only; rw [hal]; simp
    · show b.height ≤ C1.st.length
      omega
    · show C1.st.length ≤ n + 1
      have := h.stn; have := hp.len; omega
    · intro hl
      show ty2 C1.st
      rw [hst]
      exact h.zht l.length b (by rw [hlo]; exact app_r) (by rw [hlo]; exact (live_app (Nat.le_refl _)).2 hl)
    · intro a ha
      simp at ha; subst ha
      refine ⟨fun hh => absurd hh hpw, fun _ => ?_⟩
      show C1.st = C1.st.take b.height
      rw [List.take_of_length_le (by omega)]
  · intro y hy
    have hyl : y.height ≤ C1.st.length := by have := h.toph hy; rw [hb] at this; omega
    refine ⟨?_, hyl⟩
    show C1.st.take y.height = C.st.take y.height
    obtain ⟨x, hx⟩ := hp.pre
    rw [hx, List.take_append_of_le_length hyl]
  · show C1.st.length ≤ n + 1
    have := h.stn; have := hp.len; omega
  · rintro a j ⟨rfl, rfl⟩
    exact ⟨Nat.le_refl _, _, hg0, by unfold jop; simp⟩
  · rintro a i j ⟨_, e⟩ ⟨_, e'⟩
    exact e.trans e'.symm
  · intro a t ha hg
    split at hg
    · rename_i hh
      obtain ⟨rfl, hl⟩ := hh
      cases hg
      refine ⟨by simp, .inl ⟨l.length, b, ⟨rfl, rfl⟩, by rw [hlo]; exact app_r, by rw [hlo]; exact (live_app (Nat.le_refl _)).2 ((live_all hlo).1 hl).1, ?_⟩⟩
      rw [← hst]; exact hlv hl
    · cases hg
  · intro hl T' G' _ h2'
    have hG := h2' C.code.length (Nat.le_refl _)
    rw [if_pos ⟨rfl, hl⟩] at hG
    exact ⟨fun hh => by dsimp only at hh; omega, fun _ => hG, fun hh => by dsimp only at hh; omega, fun hh => by dsimp only at hh; omega, fun hh => by dsimp only at hh; omega, fun hh => by dsimp only at hh; omega, fun hh => by dsimp only at hh; omega, fun hh => by dsimp only at hh; omega, fun hh => by dsimp only at hh; omega, fun hh => by dsimp only at hh; omega, fun hh => by dsimp only at hh; omega, fun hh => by dsimp only at hh; omega⟩
/-- Leaving, the block still open but empty. -/
theorem VI.leaves (h : VI P u n C T G) (he : (leave C).2 = 0) : ∃ (l : List Blk) (b' : Blk) (T' : Typ), C.opn = l ++ [C.top] ∧ b'.wait = [] ∧ b'.alt = none ∧ b'.dead = false ∧ b'.res = C.top.res ∧ b'.height = C.top.height ∧
    VI P u (n + 1) ⟨(Wl.closes C).1.st ++ C.top.res, l ++ [b'], fillC C.code (C.top.wait ++ C.top.alt.toList) C.code.length⟩ T' G ∧ (Wl.closes C).1.st = C.st.take C.top.height ∧ Pop C (Wl.closes C).1 ∧ TLe T T' := by
  have he1 : (Wl.closes C).2 = 0 ∧ ¬ ((Wl.closes C).1.top.alt.isSome = true ∧ (Wl.closes C).1.top.res ≠ []) := by
    unfold Wl.leave at he
    dsimp only at he
    split at he
    · cases he
    · rename_i hn; exact ⟨he, hn⟩
  obtain ⟨he', hna⟩ := he1
  obtain ⟨hp, hlen, hst, hlv⟩ := h.closes he'
  obtain ⟨l, hlo, hll, htk⟩ := h.last
  rw [hp.top] at hna
  have hres := h.res _ h.topm.2
  have hv := h.resolve (n' := n + 1) (by omega) (L := C.top.wait ++ C.top.alt.toList) (l := l) (b := C.top) (b' := { C.top with wait := [], alt := none, dead := false })
    (C' := ⟨(Wl.closes C).1.st ++ C.top.res, l ++ [{ C.top with wait := [], alt := none, dead := false }], fillC C.code (C.top.wait ++ C.top.alt.toList) C.code.length⟩) hlo rfl rfl rfl rfl rfl rfl rfl (fun a ha => by simp at ha) (fun a ha => .inl ha) (fun a ha => ha) rfl ?_ ?_ ?_ ?_ hlv ?_
  · obtain ⟨T', hv, hle⟩ := hv
    exact ⟨l, { C.top with wait := [], alt := none, dead := false }, T', hlo, rfl, rfl, rfl, rfl, rfl, hv, hst, hp, hle⟩
  · show ((Wl.closes C).1.st ++ C.top.res).take C.top.height = _
    rw [← hst, ← hlen, List.take_left]
  · show C.top.height ≤ ((Wl.closes C).1.st ++ C.top.res).length
    simp; omega
  · show ((Wl.closes C).1.st ++ C.top.res).length ≤ n + 1
    have := h.stn; have := hp.len; simp; omega
  · intro hl t ht
    rcases List.mem_append.1 (show t ∈ (Wl.closes C).1.st ++ C.top.res from ht) with ht | ht
    · rw [hst] at ht
      exact h.zht l.length C.top (by have := h.topm.1; rw [← hll] at this; exact this) (by rw [hlo]; exact (live_app (Nat.le_refl _)).2 hl) t ht
    · exact hres.2.1 t ht
  · intro a ha
    refine ⟨fun _ => by rw [← hst], fun hal => ?_⟩
    have : C.top.res = [] := by
      cases hr : C.top.res with
      | nil => rfl
      | cons x y => exact absurd ⟨by rw [hal]; rfl, by rw [hr]; simp⟩ hna
    show (Wl.closes C).1.st ++ C.top.res = _
    rw [this, List.append_nil, hst]
theorem VI.leave (h : VI P u n C T G) (hne : C.opn.length ≠ 1) (he : (leave C).2 = 0) : ∃ T' G', VI P u (n + 1) (leave C).1 T' G' ∧ TLe T T' := by
  obtain ⟨l, b', T', hlo, k1, k2, k3, k4, k5, hv, hst, hp, hle⟩ := h.leaves he
  have hl : l ≠ [] := fun e => hne (by rw [hlo, e]; rfl)
  refine ⟨T', G, ?_, hle⟩
  have hd := hv.drop rfl hl k1 k2 k3
  have : (Wl.leave C).1 = ⟨(Wl.closes C).1.st ++ C.top.res, l, fillC C.code (C.top.wait ++ C.top.alt.toList) C.code.length⟩ := by
    unfold Wl.leave
    dsimp only
    rw [hp.top, hp.opn, hp.code, if_neg hne]
    congr 1
    conv => lhs; rw [hlo]
    simp
  rw [this]
  exact hd
theorem JX.jt (h : VI P u n C T G) (hnp : ∀ a t, ¬ Pend C a t) {a : Nat} {τ : List UInt8} {x : Flat} (hx : C.code[a]? = some x) (hj : JX G a τ x) : JT T τ x := by
  obtain ⟨h1, h2, h3, h4⟩ := hj
  obtain ⟨_, hr⟩ := h.gl a _ h4
  rcases hr with hr | ⟨_, y, e1, e2, e3, _⟩
  · exact absurd hr (hnp _ _)
  · rw [hx] at e1; cases e1
    exact ⟨h1, h2, h3, e2, e3⟩
theorem VI.iok (h : VI P u n C T G) (hnp : ∀ a t, ¬ Pend C a t) {u' : Fun} (hp : u'.params = u.params) (hl : u'.locals = u.locals) (hr : u'.results = u.results) (hC : CodeLe C.code u'.code) {pc : Nat} {x : Flat} {τ : List UInt8} (hx : C.code[pc]? = some x) (hτ : T pc = some τ) (hcc : ∀ (k : Nat) (e : Flat), C.code[k]? = some e → u'.code[k]? = some e) : IOk P u' T pc x τ := by
  have hi := h.ins pc τ x hx hτ
  have hres : ∀ {t : List UInt8}, G pc = some t → 0 ≤ x.imm ∧ T x.imm.toNat = some t ∧ (x.op = 4 → (pc : Int) < x.imm) := fun hg => by
    obtain ⟨_, hr⟩ := h.gl pc _ hg
    rcases hr with hr | ⟨_, y, e1, e2, e3, e4⟩
    · exact absurd hr (hnp _ _)
    · rw [hx] at e1; cases e1
      exact ⟨e2, e3, e4⟩
  refine ⟨fun e => ?_, fun e => ?_, fun e => by rw [hr]; exact hi.i5 e, fun e => JX.jt h hnp hx (hi.i6 e), fun e => ?_, fun e => ?_, hi.i10, hi.i11, hi.i12, by rw [hp, hl]; exact hi.i13, by rw [hp, hl]; exact hi.i14, hi.ip⟩
  · obtain ⟨τ', h1, h2, h3⟩ := hi.i3 e
    have := hres h3
    exact ⟨τ', h1, this.1, h2, this.2.1⟩
  · have := hres (hi.i4 e)
    exact ⟨this.2.2 e, this.2.1⟩
  · obtain ⟨τ', h1, h2, h3⟩ := hi.i7 e
    exact ⟨τ', h1, h2, JX.jt h hnp hx h3⟩
  · obtain ⟨τ', h1, h2, h3, h4⟩ := hi.i8 e
    refine ⟨τ', h1, h2, h3, fun k hk => ?_⟩
    obtain ⟨y, g1, g2, g3⟩ := h4 k hk
    exact ⟨y, hcc _ _ g1, g2, JX.jt h hnp g1 g3⟩
/-- The function's end. -/
theorem VI.done (h : VI P u n C T G) (hn : n + 1 ≤ 24) (h1 : C.opn.length = 1) (he : (Wl.leave C).2 = 0) : ∃ T', Flow P { u with code := (Wl.leave C).1.code } T' ∧ TLe T T' := by
  obtain ⟨l, b', T', hlo, k1, k2, k3, k4, k5, hv, hst, hp, hle⟩ := h.leaves he
  have hl : l = [] := by rw [hlo] at h1; simp at h1; exact h1
  subst hl
  have hbot := h.bot C.top (by rw [hlo]; rfl)
  have hcode : (Wl.leave C).1.code = fillC C.code (C.top.wait ++ C.top.alt.toList) C.code.length ++ [⟨5, 0, 0, 0⟩] := by
    unfold Wl.leave
    dsimp only
    rw [hp.top, hp.opn, hp.code, if_pos h1]
  have hstr : (Wl.closes C).1.st ++ C.top.res = u.results := by rw [hst, hbot.2.1, hbot.1]; simp
  obtain ⟨D, hD⟩ : ∃ D : Chk, (⟨(Wl.closes C).1.st ++ C.top.res, [] ++ [b'], fillC C.code (C.top.wait ++ C.top.alt.toList) C.code.length⟩ : Chk) = D := ⟨_, rfl⟩
  have hDc : fillC C.code (C.top.wait ++ C.top.alt.toList) C.code.length = D.code := by rw [← hD]
  have hDo : D.opn = [] ++ [b'] := by rw [← hD]
  have hDs : D.st = u.results := by rw [← hD]; exact hstr
  rw [hD] at hv
  rw [hDc] at hcode
  have hnp : ∀ a t, ¬ Pend D a t := by
    rintro a t ⟨j, y, e1, e2, e3⟩
    rw [hDo] at e1
    rcases app_get e1 with ⟨e1, _⟩ | ⟨rfl, rfl⟩
    · simp at e1
    · rw [k1, k2] at e3
      rcases e3 with ⟨e3, _⟩ | ⟨e3, _⟩
      · simp at e3
      · cases e3
  have hLv : Live D := (live_all hDo).2 ⟨fun i x hi => by simp at hi, k3⟩
  rw [hcode]
  refine ⟨T', ⟨hv.z0, fun pc τ hτ => ?_⟩, hle⟩
  have htl := hv.tl pc τ hτ
  show ∃ c, (D.code ++ [⟨5, 0, 0, 0⟩])[pc]? = some c ∧ _
  by_cases e : pc < D.code.length
  · refine ⟨D.code[pc], by rw [List.getElem?_append_left e]; exact List.getElem?_eq_getElem e, ?_, by omega, htl.2⟩
    refine hv.iok hnp (u' := { u with code := D.code ++ [⟨5, 0, 0, 0⟩] }) rfl rfl rfl (by show CodeLe D.code (D.code ++ [⟨5, 0, 0, 0⟩]); exact CodeLe.app _ _) (List.getElem?_eq_getElem e) hτ (fun k x hx => ?_)
    show (D.code ++ [⟨5, 0, 0, 0⟩])[k]? = some x
    rw [List.getElem?_append_left (List.getElem?_eq_some_iff.1 hx).1]; exact hx
  · by_cases e2 : pc = D.code.length
    · subst e2
      rw [hv.cur hLv, hDs] at hτ
      cases hτ
      refine ⟨⟨5, 0, 0, 0⟩, by simp, ?_, by omega, htl.2⟩
      exact ⟨fun hh => by dsimp only at hh; omega, fun hh => by dsimp only at hh; omega, fun _ => ⟨[], rfl⟩, fun hh => by dsimp only at hh; omega, fun hh => by dsimp only at hh; omega, fun hh => by dsimp only at hh; omega, fun hh => by dsimp only at hh; omega, fun hh => by dsimp only at hh; omega, fun hh => by dsimp only at hh; omega, fun hh => by dsimp only at hh; omega, fun hh => by dsimp only at hh; omega, fun hh => by dsimp only at hh; omega⟩
    · rw [hv.out pc (by omega)] at hτ; cases hτ
end Go.Wl
