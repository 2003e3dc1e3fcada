/- The two validators: a block is opened. -/
import Derived.Test.Qxb6500572aGreatDoorND
import Derived.Test.Qxb6500572aGreatDoorPValJ
namespace Go.Wl
open Go Go.Sl
set_option linter.unusedVariables false
variable {src : List Ins} {i : Nat} {o : List Int} {C C' C1 : Chk} {K K' : Km} {code : List Flat} {c : Ins}
/-- A block pushed; at most one flat instruction laid, which waits for the block's else. -/
theorem KR.push (h : KR src i o C K code) (hi : i < src.length) (hop : src[i].op = 1 ∨ src[i].op = 2 ∨ src[i].op = 3) {nb : Blk} {nc : Ctl} {xs ys : List Flat} (e1 : C'.opn = C.opn ++ [nb]) (e2 : K'.cs = K.cs ++ [nc]) (e3 : K'.st = C'.st) (e4 : C'.code = C.code ++ xs) (hxs : xs.length = szOf src[i]) (hys : ys.length = szOf src[i])
    (hb : BRel src nb nc) (hco : nc.op = src[i].op) (hat : nc.at_ = i) (hwt : nb.wait = []) (hal : ∀ a, nb.alt = some a → a = C.code.length ∧ ∃ y, ys[0]? = some y ∧ y.imm = ((altT src nc : Nat) : Int))
    (hX : ∀ (k : Nat) (x y : Flat), xs[k]? = some x → ys[k]? = some y → x.op = y.op ∧ x.keep = y.keep ∧ x.cut = y.cut ∧ (nb.alt ≠ some (C.code.length + k) → x.imm = y.imm)) (hal2 : nb.alt ≠ none → 0 < xs.length) : KR src (i + 1) (o ++ [src[i].op]) C' K' (code ++ ys) := by
  have hl := h.len
  have hcm : code.length = C.code.length := by rw [h.ml, h.cl]
  have hget : ∀ {a : Nat} {y : Flat}, code[a]? = some y → (code ++ ys)[a]? = some y := fun {a y} hy => by rw [List.getElem?_append_left (List.getElem?_eq_some_iff.1 hy).1]; exact hy
  have bcase : ∀ {j : Nat} {b : Blk}, C'.opn[j]? = some b → (j < C.opn.length ∧ C.opn[j]? = some b) ∨ (j = C.opn.length ∧ b = nb) := fun {j b} hb' => by
    rw [e1] at hb'
    by_cases hj : j < C.opn.length
    · rw [List.getElem?_append_left hj] at hb'; exact .inl ⟨hj, hb'⟩
    · have := (List.getElem?_eq_some_iff.1 hb').1
      rw [List.length_append, List.length_singleton] at this
      obtain rfl : j = C.opn.length := by omega
      rw [List.getElem?_append_right (Nat.le_refl _), Nat.sub_self] at hb'
      simp only [List.getElem?_cons_zero, Option.some.injEq] at hb'
      exact .inr ⟨rfl, hb'.symm⟩
  have ccase : ∀ {j : Nat} {b : Ctl}, K'.cs[j]? = some b → (j < K.cs.length ∧ K.cs[j]? = some b) ∨ (j = K.cs.length ∧ b = nc) := fun {j b} hb' => by
    rw [e2] at hb'
    by_cases hj : j < K.cs.length
    · rw [List.getElem?_append_left hj] at hb'; exact .inl ⟨hj, hb'⟩
    · have := (List.getElem?_eq_some_iff.1 hb').1
      rw [List.length_append, List.length_singleton] at this
      obtain rfl : j = K.cs.length := by omega
      rw [List.getElem?_append_right (Nat.le_refl _), Nat.sub_self] at hb'
      simp only [List.getElem?_cons_zero, Option.some.injEq] at hb'
      exact .inr ⟨rfl, hb'.symm⟩
  have hol := h.ol
  refine ⟨e3, by rw [e1, e2, List.length_append, List.length_append, hl]; rfl, by rw [e2, List.length_append, List.length_append, hol]; rfl, ?_, ?_, ?_, ?_, ?_, ?_, ?_, ?_, ?_, ?_⟩
  · intro j b c hb1 hc1
    rcases bcase hb1 with ⟨j1, hb2⟩ | ⟨j1, rfl⟩ <;> rcases ccase hc1 with ⟨j2, hc2⟩ | ⟨j2, rfl⟩
    · exact h.bl j b c hb2 hc2
    · omega
    · omega
    · exact hb
  · intro j c hc1 hj
    rcases ccase hc1 with ⟨j2, hc2⟩ | ⟨j2, rfl⟩
    · obtain ⟨⟨h1, h2, h3, els, h4, h5⟩, h6⟩ := h.scn j c hc2 hj
      refine ⟨⟨h1, by omega, h3, els, ?_, h5⟩, ?_⟩
      · rw [h4, endsR_open hi hop, e2, List.length_append, List.length_singleton]
        congr 1; omega
      · rw [List.getElem?_append_left (List.getElem?_eq_some_iff.1 h6).1]; exact h6
    · refine ⟨⟨by rw [hat]; omega, by rw [hat]; omega, by rw [hco]; omega, -1, ?_, fun _ => rfl, fun h4 => by rw [hco] at h4; omega⟩, ?_⟩
      · rw [hat, Int.toNat_natCast, e2, List.length_append, List.length_singleton, j2, show K.cs.length + 1 - 1 - K.cs.length = 0 by omega]; rfl
      · rw [j2, hol, show o.length + 1 - 1 = o.length by omega, List.getElem?_append_right (Nat.le_refl _), Nat.sub_self, hco]; rfl
  · intro c hc1
    rcases ccase hc1 with ⟨j2, hc2⟩ | ⟨j2, rfl⟩
    · exact h.bot c hc2
    · omega
  · rw [e4, List.length_append, h.cl, hxs, posOf_succ hi]
  · rw [List.length_append, h.ml, hys, posOf_succ hi]
  · intro a x y hx hy
    rw [e4] at hx
    by_cases ha : a < C.code.length
    · rw [List.getElem?_append_left ha] at hx
      rw [List.getElem?_append_left (by omega)] at hy
      obtain ⟨h1, h2, h3, h4⟩ := h.cd a x y hx hy
      exact ⟨h1, h2, h3, fun hp => h4 fun b hb1 => hp b (by rw [e1]; exact List.mem_append_left _ hb1)⟩
    · rw [List.getElem?_append_right (by omega)] at hx
      rw [List.getElem?_append_right (by omega), hcm] at hy
      obtain ⟨h1, h2, h3, h4⟩ := hX _ x y hx hy
      refine ⟨h1, h2, h3, fun hp => h4 ?_⟩
      rw [show C.code.length + (a - C.code.length) = a by omega]
      exact (hp nb (by rw [e1]; simp)).2
  · intro j b c a hb1 hc1 ha
    rcases bcase hb1 with ⟨j1, hb2⟩ | ⟨j1, rfl⟩ <;> rcases ccase hc1 with ⟨j2, hc2⟩ | ⟨j2, rfl⟩
    · obtain ⟨h2, y, h3, h4⟩ := h.wt j b c a hb2 hc2 ha
      exact ⟨h2, y, hget h3, h4⟩
    · omega
    · omega
    · rw [hwt] at ha; simp at ha
  · intro j b c a hb1 hc1 ha
    rcases bcase hb1 with ⟨j1, hb2⟩ | ⟨j1, rfl⟩ <;> rcases ccase hc1 with ⟨j2, hc2⟩ | ⟨j2, rfl⟩
    · obtain ⟨y, h3, h4⟩ := h.al j b c a hb2 hc2 ha
      exact ⟨y, hget h3, h4⟩
    · omega
    · omega
    · obtain ⟨rfl, y, h3, h4⟩ := hal a ha
      exact ⟨y, by rw [List.getElem?_append_right (by omega), hcm, Nat.sub_self]; exact h3, h4⟩
  · have nbp : ∀ {a : Nat}, (a ∈ nb.wait ∨ nb.alt = some a) → a = C.code.length := fun {a} ha => by
      rcases ha with ha | ha
      · rw [hwt] at ha; simp at ha
      · exact (hal a ha).1
    intro j1 j2 b1 b2 a hb1 hb2 ha1 ha2
    rcases bcase hb1 with ⟨k1, hc1⟩ | ⟨k1, rfl⟩ <;> rcases bcase hb2 with ⟨k2, hc2⟩ | ⟨k2, rfl⟩
    · exact h.dis j1 j2 b1 b2 a hc1 hc2 ha1 ha2
    · have := h.pl b1 (List.mem_of_getElem? hc1) a ha1; have := nbp ha2; omega
    · have := h.pl b2 (List.mem_of_getElem? hc2) a ha2; have := nbp ha1; omega
    · omega
  · intro b hb1 a ha
    rw [e4, List.length_append]
    rw [e1] at hb1
    rcases List.mem_append.1 hb1 with h1 | h1
    · have := h.pl b h1 a ha; omega
    · simp only [List.mem_singleton] at h1
      subst h1
      rcases ha with ha | ha
      · rw [hwt] at ha; simp at ha
      · have := (hal a ha).1
        have := hal2 (by rw [ha]; simp)
        omega
theorem KR.enter (h : KR src i o C K code) (hi : i < src.length) (hc : src[i] = c) (hop : c.op = 1 ∨ c.op = 2 ∨ c.op = 3) :
    (enterM K src code i c).2.2 = (enter C c).2 ∧ ((enter C c).2 = 0 → KR src (i + 1) (o ++ [c.op]) (enter C c).1 (enterM K src code i c).1 (enterM K src code i c).2.1) := by
  have hop' : src[i].op = 1 ∨ src[i].op = 2 ∨ src[i].op = 3 := by rw [hc]; exact hop
  unfold enterM Wl.enter
  by_cases h3 : c.op = 3
  · rw [if_neg (show ¬ c.op = 2 by omega), if_pos h3, if_pos h3]
    dsimp only
    obtain ⟨p1, p2, p3⟩ := syn_pops h.syn [105]
    refine ⟨by rw [p1]; exact typed_dec p2, fun h0 => ?_⟩
    have hcs : (popsM K [105]).1.cs = K.cs := by rw [p1]
    have hst : (popsM K [105]).1.st = (pops C [105]).1.st := by rw [p1]
    have hop1 : (pops C [105]).1.opn = C.opn := by rw [p3]
    have hcd1 : (pops C [105]).1.code = C.code := by rw [p3]
    have hz : szOf src[i] = 1 := by rw [hc]; unfold szOf; rw [if_neg (by omega), if_neg (by omega)]
    rw [← hc]
    refine h.push hi hop' (nb := ⟨resOf c.imm, resOf c.imm, (pops C [105]).1.st.length, -1, false, some C.code.length, []⟩) (nc := ⟨c.op, c.imm, (popsM K [105]).1.st.length, i, false⟩) (xs := [⟨3, -1, 0, 0⟩]) (ys := [⟨3, (posOf src (if 0 ≤ (ends src i).1 then (ends src i).1 + 1 else (ends src i).2).toNat : Nat), 0, 0⟩]) ?_ ?_ ?_ ?_ (by rw [hz]; rfl) (by rw [hz]; rfl) ?_ (by rw [hc]) rfl rfl ?_ ?_ (fun _ => by simp)
    · show (pops C [105]).1.opn ++ [_] = _; rw [hop1, hcd1, hc]; rfl
    · show (popsM K [105]).1.cs ++ [_] = _; rw [hcs, hc]
    · exact hst
    · show (pops C [105]).1.code ++ _ = _; rw [hcd1]
    · refine ⟨rfl, ?_, by rw [hst], rfl, ?_, ?_⟩
      · unfold labelM; rw [if_neg (show ¬ c.op = 2 by omega)]
      · rw [if_neg (show ¬ c.op = 2 by omega)]
      · simp [h3]
    · intro a ha
      simp only [Option.some.injEq] at ha
      refine ⟨ha.symm, _, rfl, ?_⟩
      unfold altT
      rw [Int.toNat_natCast]
    · intro k x y hx hy
      cases k with
      | succ k => simp at hx
      | zero =>
        simp only [List.getElem?_cons_zero, Option.some.injEq] at hx hy
        subst hx hy
        exact ⟨rfl, rfl, rfl, fun hne => absurd rfl hne⟩
  · have hz : szOf src[i] = 0 := by rw [hc]; unfold szOf; rw [if_pos (by omega)]
    rw [if_neg h3, if_neg h3]
    have happ : code = code ++ [] := (List.append_nil _).symm
    by_cases h2 : c.op = 2
    · rw [if_pos h2]
      refine ⟨rfl, fun _ => ?_⟩
      dsimp only
      rw [happ, ← hc]
      refine h.push hi hop' (nb := ⟨resOf c.imm, [], C.st.length, C.code.length, false, none, []⟩) (nc := ⟨c.op, c.imm, K.st.length, i, false⟩) (xs := []) (ys := []) ?_ ?_ h.st (List.append_nil _).symm (by rw [hz]; rfl) (by rw [hz]; rfl) ?_ (by rw [hc]) rfl rfl (fun a ha => by cases ha) (fun k x y hx => by simp at hx) (fun hne => absurd rfl hne)
      · rw [hc]
      · rw [hc]
      · refine ⟨rfl, ?_, by rw [h.st], rfl, ?_, ?_⟩
        · unfold labelM; rw [if_pos h2]
        · rw [if_pos h2, h.cl, Int.toNat_natCast]
        · simp [h2]
    · rw [if_neg h2]
      refine ⟨rfl, fun _ => ?_⟩
      dsimp only
      rw [happ, ← hc]
      refine h.push hi hop' (nb := ⟨resOf c.imm, resOf c.imm, C.st.length, -1, false, none, []⟩) (nc := ⟨c.op, c.imm, K.st.length, i, false⟩) (xs := []) (ys := []) ?_ ?_ h.st (List.append_nil _).symm (by rw [hz]; rfl) (by rw [hz]; rfl) ?_ (by rw [hc]) rfl rfl (fun a ha => by cases ha) (fun k x y hx => by simp at hx) (fun hne => absurd rfl hne)
      · rw [hc]
      · rw [hc]
      · refine ⟨rfl, ?_, by rw [h.st], rfl, ?_, ?_⟩
        · unfold labelM; rw [if_neg h2]
        · rw [if_neg h2]
        · simp [h3]
end Go.Wl
