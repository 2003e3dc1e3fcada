/- The two validators: an instruction that opens and closes no block. -/
import Derived.Test.Qxb6500572aGreatDoorNA
import Derived.Test.Qxb6500572aGreatDoorPValF
namespace Go.Wl
open Go Go.Sl
set_option linter.unusedVariables false
variable {src : List Ins} {i : Nat} {o : List Int} {C C' : Chk} {K K' : Km} {code : List Flat}
theorem KR.emit (h : KR src i o C K code) (hi : i < src.length) (hn : ¬ (1 ≤ src[i].op ∧ src[i].op ≤ 5)) {xs ys : List Flat} (e3 : K'.st = C'.st) (e4 : C'.code = C.code ++ xs) (hxs : xs.length = szOf src[i]) (hys : ys.length = szOf src[i])
    {w : Nat → Nat → Prop} (hO : OR C C' w) (hw : ∀ a j, w a j → j < C.opn.length ∧ C.code.length ≤ a ∧ a < C.code.length + xs.length ∧ ∀ c, K.cs[j]? = some c → c.op ≠ 2 ∧ ∃ y, ys[a - C.code.length]? = some y ∧ y.imm = (posOf src (endM src c).toNat : Nat)) (hwf : ∀ a i j, w a i → w a j → i = j)
    (hKl : K'.cs.length = K.cs.length) (hK : ∀ (j : Nat) (c' : Ctl), K'.cs[j]? = some c' → ∃ c, K.cs[j]? = some c ∧ c'.op = c.op ∧ c'.at_ = c.at_ ∧ c'.bt = c.bt ∧ c'.height = c.height)
    (hD : ∀ (j : Nat) (b' : Blk) (c' : Ctl), C'.opn[j]? = some b' → K'.cs[j]? = some c' → b'.dead = c'.dead)
    (hX : ∀ (k : Nat) (x y : Flat), xs[k]? = some x → ys[k]? = some y → x.op = y.op ∧ x.keep = y.keep ∧ x.cut = y.cut ∧ ((∀ j, ¬ w (C.code.length + k) j) → x.imm = y.imm)) : KR src (i + 1) o C' K' (code ++ ys) := by
  have hcm : code.length = C.code.length := by rw [h.ml, h.cl]
  have hget : ∀ {a : Nat} {y : Flat}, code[a]? = some y → (code ++ ys)[a]? = some y := fun {a y} hy => by rw [List.getElem?_append_left (List.getElem?_eq_some_iff.1 hy).1]; exact hy
  refine ⟨e3, by rw [hO.len, hKl]; exact h.len, by rw [hKl]; exact h.ol, ?_, ?_, ?_, ?_, ?_, ?_, ?_, ?_, ?_, ?_⟩
  · intro j b' c' hb' hc'
    obtain ⟨b, hb, q1, q2, q3, q4, q5, _, _, _⟩ := hO.back hb'
    obtain ⟨c, hc, r1, r2, r3, r4⟩ := hK j c' hc'
    have hr := h.bl j b c hb hc
    refine ⟨by rw [q2, hr.res, r3], ?_, by rw [q1, hr.ht, r4], hD j b' c' hb' hc', ?_, ?_⟩
    · rw [q3, hr.carry]; unfold labelM; rw [r1, r3]
    · rw [q4, hr.head, r1, r2]
    · rw [q5, r1]; exact hr.alt
  · intro j c' hc' hj
    obtain ⟨c, hc, r1, r2, r3, r4⟩ := hK j c' hc'
    obtain ⟨⟨h1, h2, h3, els, h4, h5⟩, h6⟩ := h.scn j c hc hj
    rw [hKl]
    exact ⟨⟨by rw [r2]; exact h1, by rw [r2]; omega, by rw [r1]; exact h3, els, by rw [r2, h4, endsR_step hi hn], by rw [r1]; exact h5⟩, by rw [r1]; exact h6⟩
  · intro c' hc'
    obtain ⟨c, hc, r1, r2, r3, r4⟩ := hK 0 c' hc'
    rw [r1, r2]; exact h.bot c hc
  · rw [e4, List.length_append, h.cl, hxs, posOf_succ hi]
  · rw [List.length_append, h.ml, hys, posOf_succ hi]
  · intro a x y hx hy
    rw [e4] at hx
    by_cases ha : a < C.code.length
    · rw [List.getElem?_append_left ha] at hx
      rw [List.getElem?_append_left (by omega)] at hy
      obtain ⟨h1, h2, h3, h4⟩ := h.cd a x y hx hy
      refine ⟨h1, h2, h3, fun hp => h4 fun b hb => ?_⟩
      obtain ⟨j, hj⟩ := List.getElem?_of_mem hb
      obtain ⟨b', hb', _, _, _, _, q5, _, _, q8⟩ := hO.each j b hj
      have := hp b' (List.mem_of_getElem? hb')
      exact ⟨fun hm => this.1 ((q8 a).2 (.inl hm)), fun hm => this.2 (by rw [q5]; exact hm)⟩
    · rw [List.getElem?_append_right (by omega)] at hx
      rw [List.getElem?_append_right (by omega), hcm] at hy
      obtain ⟨h1, h2, h3, h4⟩ := hX _ x y hx hy
      refine ⟨h1, h2, h3, fun hp => h4 fun j hj => ?_⟩
      rw [show C.code.length + (a - C.code.length) = a by omega] at hj
      obtain ⟨b', hb', _, _, _, _, _, _, _, q8⟩ := hO.each j _ (List.getElem?_eq_getElem (hw a j hj).1)
      exact (hp b' (List.mem_of_getElem? hb')).1 ((q8 a).2 (.inr hj))
  · intro j b' c' a hb' hc' ha
    obtain ⟨b, hb, q1, q2, q3, q4, q5, _, _, q8⟩ := hO.back hb'
    obtain ⟨c, hc, r1, r2, r3, r4⟩ := hK j c' hc'
    have hen : endM src c' = endM src c := by unfold endM; rw [r1, r2]
    rw [r1, hen]
    rcases (q8 a).1 ha with h1 | h1
    · obtain ⟨h2, y, h3, h4⟩ := h.wt j b c a hb hc h1
      exact ⟨h2, y, hget h3, h4⟩
    · obtain ⟨_, h2, h3, h4⟩ := hw a j h1
      obtain ⟨h5, y, h6, h7⟩ := h4 c hc
      exact ⟨h5, y, by rw [List.getElem?_append_right (by omega), hcm]; exact h6, h7⟩
  · intro j b' c' a hb' hc' ha
    obtain ⟨b, hb, q1, q2, q3, q4, q5, _, _, q8⟩ := hO.back hb'
    obtain ⟨c, hc, r1, r2, r3, r4⟩ := hK j c' hc'
    rw [q5] at ha
    obtain ⟨y, h3, h4⟩ := h.al j b c a hb hc ha
    exact ⟨y, hget h3, by rw [h4]; unfold altT; rw [r2]⟩
  · intro j1 j2 b1 b2 a hb1 hb2 ha1 ha2
    obtain ⟨c1, hc1, _, _, _, _, q5, _, _, q8⟩ := hO.back hb1
    obtain ⟨c2, hc2, _, _, _, _, r5, _, _, r8⟩ := hO.back hb2
    rw [q5, q8] at ha1
    rw [r5, r8] at ha2
    have old : ∀ {j : Nat} {b : Blk}, C.opn[j]? = some b → (a ∈ b.wait ∨ b.alt = some a) → a < C.code.length := fun hb ha => h.pl _ (List.mem_of_getElem? hb) a ha
    by_cases hn1 : w a j1
    · by_cases hn2 : w a j2
      · exact hwf a j1 j2 hn1 hn2
      · have := (hw a j1 hn1).2.1
        have := old hc2 (by rcases ha2 with (h1 | h1) | h1; exact .inl h1; exact absurd h1 hn2; exact .inr h1)
        omega
    · have l1 := old hc1 (by rcases ha1 with (h1 | h1) | h1; exact .inl h1; exact absurd h1 hn1; exact .inr h1)
      by_cases hn2 : w a j2
      · have := (hw a j2 hn2).2.1; omega
      · exact h.dis j1 j2 c1 c2 a hc1 hc2 (by rcases ha1 with (h1 | h1) | h1; exact .inl h1; exact absurd h1 hn1; exact .inr h1) (by rcases ha2 with (h1 | h1) | h1; exact .inl h1; exact absurd h1 hn2; exact .inr h1)
  · intro b' hb' a ha
    obtain ⟨j, hj⟩ := List.getElem?_of_mem hb'
    obtain ⟨b, hb, _, _, _, _, q5, _, _, q8⟩ := hO.back hj
    rw [e4, List.length_append]
    rw [q5, q8] at ha
    rcases ha with (h1 | h1) | h1
    · have := h.pl b (List.mem_of_getElem? hb) a (.inl h1); omega
    · have := (hw a j h1).2.2.1; omega
    · have := h.pl b (List.mem_of_getElem? hb) a (.inr h1); omega
/-- The model's blocks, the top one dead or not. -/
theorem KR.same (h : KR src i o C K code) (hK : K'.cs = K.cs) : K'.cs.length = K.cs.length ∧ ∀ (j : Nat) (c' : Ctl), K'.cs[j]? = some c' → ∃ c, K.cs[j]? = some c ∧ c'.op = c.op ∧ c'.at_ = c.at_ ∧ c'.bt = c.bt ∧ c'.height = c.height :=
  ⟨by rw [hK], fun j c' hc' => ⟨c', by rw [← hK]; exact hc', rfl, rfl, rfl, rfl⟩⟩
theorem dead_cs (K : Km) (hp : 0 < K.cs.length) (hK : K'.cs = K.cs.set (K.cs.length - 1) { K.top with dead := true }) : K'.cs.length = K.cs.length ∧ ∀ (j : Nat) (c' : Ctl), K'.cs[j]? = some c' → ∃ c, K.cs[j]? = some c ∧ c'.op = c.op ∧ c'.at_ = c.at_ ∧ c'.bt = c.bt ∧ c'.height = c.height := by
  refine ⟨by rw [hK, List.length_set], fun j c' hc' => ?_⟩
  rw [hK] at hc'
  by_cases hj : K.cs.length - 1 = j
  · subst hj
    rw [List.getElem?_set_self (by omega)] at hc'
    simp only [Option.some.injEq] at hc'
    subst hc'
    exact ⟨K.top, by rw [topM_eq hp, List.getElem?_eq_getElem (by omega)], rfl, rfl, rfl, rfl⟩
  · rw [List.getElem?_set_ne hj] at hc'
    exact ⟨c', hc', rfl, rfl, rfl, rfl⟩
/-- One plain instruction laid, the blocks as they were. -/
theorem KR.plain (h : KR src i o C K code) (hi : i < src.length) (hn : ¬ (1 ≤ src[i].op ∧ src[i].op ≤ 5)) (hz : szOf src[i] = 1) {f : Flat} (e1 : C'.opn = C.opn) (e2 : K'.cs = K.cs) (e3 : K'.st = C'.st) (e4 : C'.code = C.code ++ [f]) : KR src (i + 1) o C' K' (code ++ [f]) :=
  h.grow hi e1 e2 e3 e4 hz hn
/-- One plain instruction laid, behind which nothing is reached. -/
theorem KR.gone (h : KR src i o C K code) (hi : i < src.length) (hn : ¬ (1 ≤ src[i].op ∧ src[i].op ≤ 5)) (hz : szOf src[i] = 1) {f : Flat} (e1 : C'.opn = C.opn.set (C.opn.length - 1) { C.top with dead := true }) (e2 : K'.cs = K.cs.set (K.cs.length - 1) { K.top with dead := true }) (e3 : K'.st = C'.st) (e4 : C'.code = C.code ++ [f]) : KR src (i + 1) o C' K' (code ++ [f]) := by
  have hp := h.pos
  have hl := h.len
  have hO : OR C C' (fun _ _ => False) := by
    refine ⟨by rw [e1, List.length_set], fun j b hb => ?_⟩
    rw [e1]
    by_cases hj : C.opn.length - 1 = j
    · subst hj
      have : b = C.top := by rw [h.tops.1] at hb; simpa using hb.symm
      subst this
      exact ⟨_, List.getElem?_set_self (by omega), rfl, rfl, rfl, rfl, rfl, fun h1 => by omega, fun _ => rfl, by simp⟩
    · exact ⟨b, by rw [List.getElem?_set_ne hj]; exact hb, rfl, rfl, rfl, rfl, rfl, fun _ => rfl, fun x => x, by simp⟩
  obtain ⟨hk1, hk2⟩ := dead_cs K (by omega) e2
  refine h.emit hi hn e3 e4 (by rw [hz]; rfl) (by rw [hz]; rfl) hO (fun a j hf => hf.elim) (fun a _ _ hf => hf.elim) hk1 hk2 ?_ ?_
  · intro j b' c' hb' hc'
    rw [e1] at hb'
    rw [e2] at hc'
    by_cases hj : C.opn.length - 1 = j
    · subst hj
      rw [List.getElem?_set_self (by omega)] at hb'
      rw [hl, List.getElem?_set_self (by omega)] at hc'
      simp only [Option.some.injEq] at hb' hc'
      subst hb' hc'
      rfl
    · rw [List.getElem?_set_ne hj] at hb'
      rw [List.getElem?_set_ne (by omega)] at hc'
      exact (h.bl j b' c' hb' hc').dd
  · intro k x y hx hy
    rw [hx] at hy
    simp only [Option.some.injEq] at hy
    subst hy
    exact ⟨rfl, rfl, rfl, fun _ => rfl⟩
end Go.Wl
