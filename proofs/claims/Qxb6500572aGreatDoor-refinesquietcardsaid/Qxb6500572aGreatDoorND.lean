/- The two validators: branches and tables. -/
import Derived.Test.Qxb6500572aGreatDoorNC
import Derived.Test.Qxb6500572aGreatDoorPValH
namespace Go.Wl
open Go Go.Sl
set_option linter.unusedVariables false
variable {src : List Ins} {i : Nat} {o : List Int} {C C' C1 : Chk} {K K' : Km} {code : List Flat} {fs : List Fun} {fsM : List Fm} {u : Fun} {uM : Fm} {c : Ins}
theorem KR.syn1 (h : KR src i o C K code) (hs : C1.opn.map Blk.strip = C.opn.map Blk.strip) (e : C1.st = C.st) : Syn C1 K := by
  have ht := strip_fields (strip_top (C := C) (C' := C1) hs)
  have := h.syn
  exact ⟨by rw [e]; exact this.st, by rw [ht.2.2.1]; exact this.ht, by rw [ht.2.2.2.2.1]; exact this.dd⟩
theorem strip_dead (hs : C1.opn.map Blk.strip = C.opn.map Blk.strip) {j : Nat} {b1 b : Blk} (h1 : C1.opn[j]? = some b1) (h2 : C.opn[j]? = some b) : b1.dead = b.dead := by
  have := strip_getD hs j
  rw [List.getD_eq_getElem?_getD, List.getD_eq_getElem?_getD, h1, h2] at this
  exact (strip_fields this).2.2.2.2.1
theorem lab_of (C : Chk) (l : Nat) : lab C l = C.opn.getD (C.opn.length - 1 - l) Blk.nil := rfl
theorem KR.labcs (h : KR src i o C K code) {l : Nat} (hl : l < C.opn.length) {c : Ctl} (hc : K.cs[C.opn.length - 1 - l]? = some c) : c = K.lab l := by
  have hln := h.len
  rw [hln, List.getElem?_eq_getElem (by omega)] at hc
  rw [labM_eq (by omega)]
  simpa using hc.symm
/-- A jump's entry, of the one and of the other. -/
theorem KR.entry (h : KR src i o C K code) {l : Nat} (hl : l < C.opn.length) : (lab C l).carry = labelM (K.lab l) ∧ (lab C l).height = (K.lab l).height ∧ ((lab C l).head < 0 ↔ (K.lab l).op ≠ 2) ∧ (¬ (lab C l).head < 0 → (lab C l).head = (posOf src (endM src (K.lab l)).toNat : Nat)) := by
  have hb := h.labs hl
  rw [← lab_of] at hb
  refine ⟨hb.carry, hb.ht, ?_, ?_⟩
  · rw [hb.head]
    by_cases h2 : (K.lab l).op = 2
    · rw [if_pos h2]; simp [h2]
    · rw [if_neg h2]; simp [h2]
  · intro hn
    rw [hb.head] at hn ⊢
    by_cases h2 : (K.lab l).op = 2
    · rw [if_pos h2]; unfold endM; rw [if_pos h2]
    · rw [if_neg h2] at hn; simp at hn
/-- What follows the jumps: the operands, and whether the rest is reached. -/
theorem KR.after (h : KR src i o C K code) (hi : i < src.length) (hn : ¬ (1 ≤ src[i].op ∧ src[i].op ≤ 5)) {xs ys : List Flat} (hs : C1.opn.map Blk.strip = C.opn.map Blk.strip) {w : Nat → Nat → Prop} (hO : OR C C1 w) (e4 : C1.code = C.code ++ xs) (hxs : xs.length = szOf src[i]) (hys : ys.length = szOf src[i])
    (hw : ∀ a j, w a j → j < C.opn.length ∧ C.code.length ≤ a ∧ a < C.code.length + xs.length ∧ ∀ c, K.cs[j]? = some c → c.op ≠ 2 ∧ ∃ y, ys[a - C.code.length]? = some y ∧ y.imm = (posOf src (endM src c).toNat : Nat)) (hwf : ∀ a i j, w a i → w a j → i = j)
    (hX : ∀ (k : Nat) (x y : Flat), xs[k]? = some x → ys[k]? = some y → x.op = y.op ∧ x.keep = y.keep ∧ x.cut = y.cut ∧ ((∀ j, ¬ w (C.code.length + k) j) → x.imm = y.imm)) {r : Chk × Int} {q : Km × Int} (hA : Agree C1 K r q) : KR src (i + 1) o r.1 q.1 (code ++ ys) := by
  have hp := h.pos
  have hl := h.len
  have hl1 : C1.opn.length = C.opn.length := strip_len hs
  rcases hA.bl with ⟨b1, b2⟩ | ⟨b1, b2⟩
  · obtain ⟨k1, k2⟩ := h.same b2
    refine h.emit hi hn hA.st (by rw [hA.cd, e4]) hxs hys (hO.thenSame b1) hw hwf k1 k2 ?_ hX
    intro j b' c' hb' hc'
    rw [b1] at hb'
    rw [b2] at hc'
    have hj := (List.getElem?_eq_some_iff.1 hb').1
    have hb := List.getElem?_eq_getElem (show j < C.opn.length by omega)
    rw [strip_dead hs hb' hb]
    exact (h.bl j _ c' hb hc').dd
  · obtain ⟨k1, k2⟩ := dead_cs K (by omega) b2
    refine h.emit hi hn hA.st (by rw [hA.cd, e4]) hxs hys (hO.thenDead (by intro e; rw [e] at hp; simp at hp) b1) hw hwf k1 k2 ?_ hX
    intro j b' c' hb' hc'
    rw [b1] at hb'
    rw [b2] at hc'
    by_cases hj : C1.opn.length - 1 = j
    · subst hj
      rw [List.getElem?_set_self (by omega)] at hb'
      rw [show C1.opn.length - 1 = K.cs.length - 1 by omega, List.getElem?_set_self (by omega)] at hc'
      simp only [Option.some.injEq] at hb' hc'
      subst hb' hc'
      rfl
    · rw [List.getElem?_set_ne hj] at hb'
      rw [List.getElem?_set_ne (by omega)] at hc'
      have hjl := (List.getElem?_eq_some_iff.1 hb').1
      have hb := List.getElem?_eq_getElem (show j < C.opn.length by omega)
      rw [strip_dead hs hb' hb]
      exact (h.bl j _ c' hb hc').dd
theorem KR.branch (h : KR src i o C K code) (hi : i < src.length) (hc : src[i] = c) (hw : well c = true) (hop : c.op = 6 ∨ c.op = 7) :
    (branchM K src code c).2.2 = (branch C c).2 ∧ ((branch C c).2 = 0 → KR src (i + 1) o (branch C c).1 (branchM K src code c).1 (branchM K src code c).2.1) := by
  have hwg := (well_ge hw).1 (by omega)
  have hln := h.len
  unfold branchM Wl.branch
  rw [← hln]
  by_cases hl : (C.opn.length : Int) ≤ c.imm
  · rw [if_pos hl, if_pos hl]
    exact ⟨rfl, fun h0 => by cases h0⟩
  rw [if_neg hl, if_neg hl]
  have hll : c.imm.toNat < C.opn.length := by omega
  obtain ⟨j1, j2, j3, j4⟩ := jump_facts (C := C) (op := c.op) hll
  have js := jump_strip C c.op c.imm.toNat
  obtain ⟨n1, n2, n3, n4⟩ := h.entry hll
  have hsyn := h.syn1 js j2
  have hz : szOf src[i] = 1 := by rw [hc]; unfold szOf; rw [if_neg (by omega), if_neg (by omega)]
  have hn : ¬ (1 ≤ src[i].op ∧ src[i].op ≤ 5) := by rw [hc]; omega
  have hW : ∀ a j, ((lab C c.imm.toNat).head < 0 ∧ a = C.code.length ∧ j = C.opn.length - 1 - c.imm.toNat) → j < C.opn.length ∧ C.code.length ≤ a ∧ a < C.code.length + [(⟨c.op, (lab C c.imm.toNat).head, (lab C c.imm.toNat).carry.length, (lab C c.imm.toNat).height⟩ : Flat)].length ∧ ∀ c', K.cs[j]? = some c' → c'.op ≠ 2 ∧ ∃ y, [({ jumpM K src c.imm.toNat with op := c.op } : Flat)][a - C.code.length]? = some y ∧ y.imm = (posOf src (endM src c').toNat : Nat) := by
    rintro a j ⟨w1, rfl, rfl⟩
    refine ⟨by omega, Nat.le_refl _, by simp, fun c' hc' => ?_⟩
    rw [h.labcs hll hc']
    exact ⟨n3.1 w1, _, by rw [Nat.sub_self]; rfl, rfl⟩
  have hX : ∀ (k : Nat) (x y : Flat), [(⟨c.op, (lab C c.imm.toNat).head, (lab C c.imm.toNat).carry.length, (lab C c.imm.toNat).height⟩ : Flat)][k]? = some x → [({ jumpM K src c.imm.toNat with op := c.op } : Flat)][k]? = some y → x.op = y.op ∧ x.keep = y.keep ∧ x.cut = y.cut ∧ ((∀ j, ¬ ((lab C c.imm.toNat).head < 0 ∧ C.code.length + k = C.code.length ∧ j = C.opn.length - 1 - c.imm.toNat)) → x.imm = y.imm) := by
    intro k x y hx hy
    cases k with
    | succ k => simp at hx
    | zero =>
      simp only [List.getElem?_cons_zero, Option.some.injEq] at hx hy
      subst hx hy
      refine ⟨rfl, ?_, ?_, fun hp => ?_⟩
      · show ((lab C c.imm.toNat).carry.length : Int) = _; rw [n1]; rfl
      · show ((lab C c.imm.toNat).height : Int) = _; rw [n2]; rfl
      · exact n4 fun hneg => hp _ ⟨hneg, rfl, rfl⟩
  have hwf : ∀ (a i j : Nat), ((lab C c.imm.toNat).head < 0 ∧ a = C.code.length ∧ i = C.opn.length - 1 - c.imm.toNat) → ((lab C c.imm.toNat).head < 0 ∧ a = C.code.length ∧ j = C.opn.length - 1 - c.imm.toNat) → i = j := by
    rintro a i' j' ⟨_, _, rfl⟩ ⟨_, _, rfl⟩; rfl
  dsimp only
  by_cases h7 : c.op = 7
  · rw [if_pos h7, if_neg (show ¬ c.op = 6 by omega)]
    have hA := agree_swap hsyn (labelM (K.lab c.imm.toNat) ++ [105]) (labelM (K.lab c.imm.toNat))
    rw [j3, n1]
    refine ⟨hA.e, fun h0 => ?_⟩
    exact h.after hi hn js j4 j1 (by rw [hz]; rfl) (by rw [hz]; rfl) hW hwf hX hA
  · rw [if_neg h7, if_pos (show c.op = 6 by omega)]
    have hA := agree_leaves hsyn (labelM (K.lab c.imm.toNat))
    rw [j3, n1]
    refine ⟨hA.e, fun h0 => ?_⟩
    exact h.after hi hn js j4 j1 (by rw [hz]; rfl) (by rw [hz]; rfl) hW hwf hX hA
theorem KR.table (h : KR src i o C K code) (hi : i < src.length) (hc : src[i] = c) (hw : well c = true) (hop : c.op = 8) :
    (tableM K src code c).2.2 = (table C c).2 ∧ ((table C c).2 = 0 → KR src (i + 1) o (table C c).1 (tableM K src code c).1 (tableM K src code c).2.1) := by
  have hwg := (well_ge hw).2 hop
  have hln := h.len
  unfold tableM Wl.table
  rw [← hln]
  by_cases hl : c.tab.any (fun t => decide (C.opn.length ≤ t.toNat)) = true
  · rw [if_pos hl, if_pos hl]
    exact ⟨rfl, fun h0 => by cases h0⟩
  rw [if_neg hl, if_neg hl]
  have hlt : ∀ t, t ∈ c.tab → t.toNat < C.opn.length := by
    intro t ht
    by_cases hx : C.opn.length ≤ t.toNat
    · exact absurd (List.any_eq_true.2 ⟨t, ht, decide_eq_true hx⟩) hl
    · omega
  dsimp only
  obtain ⟨f8, hf8⟩ : ∃ f : Flat, (⟨8, (c.tab.length : Int) - 1, 0, 0⟩ : Flat) = f := ⟨_, rfl⟩
  rw [hf8]
  have hlast : c.tab.getD (c.tab.length - 1) 0 ∈ c.tab := by
    rw [List.getD_eq_getElem?_getD, List.getElem?_eq_getElem (by omega)]; exact List.getElem_mem _
  obtain ⟨d0, hd0⟩ : ∃ d, c.tab.getD (c.tab.length - 1) 0 = d := ⟨_, rfl⟩
  rw [hd0] at hlast ⊢
  have hd := h.entry (hlt d0 hlast)
  rw [lab_of] at hd
  rw [hd.1]
  obtain ⟨j1, j2, j3, j4⟩ := jumps_facts c.tab (hole C f8) hlt
  have hent : ∀ t, ent (hole C f8) t = ent C t := fun t => rfl
  have j1' : (jumps (hole C f8) c.tab).code = C.code ++ (f8 :: c.tab.map (ent C)) := by
    rw [j1]; show (C.code ++ [f8]) ++ _ = _; rw [List.append_assoc]; rfl
  have js : (jumps (hole C f8) c.tab).opn.map Blk.strip = C.opn.map Blk.strip := j3
  have hsyn := h.syn1 js j2
  have hO : OR C (jumps (hole C f8) c.tab) (tabW C (C.code.length + 1) c.tab) := by
    have e : (hole C f8).code.length = C.code.length + 1 := by show (C.code ++ [f8]).length = _; simp
    rw [e] at j4
    exact ⟨j4.len, j4.each⟩
  have hz : szOf src[i] = 1 + c.tab.length := by rw [hc]; unfold szOf; rw [if_neg (by omega), if_pos hop]
  have hn : ¬ (1 ≤ src[i].op ∧ src[i].op ≤ 5) := by rw [hc]; omega
  have hA := agree_leaves hsyn (labelM (K.lab d0.toNat) ++ [105])
  have hall : sames C (labelM (K.lab d0.toNat)) c.tab = c.tab.all (fun t => decide (labelM (K.lab t.toNat) = labelM (K.lab d0.toNat))) := by
    unfold sames
    apply Bool.eq_iff_iff.2
    rw [List.all_eq_true, List.all_eq_true]
    constructor
    · intro hx t ht
      have := hx t ht
      rw [← (h.entry (hlt t ht)).1, lab_of]; exact this
    · intro hx t ht
      have := hx t ht
      rw [← (h.entry (hlt t ht)).1, lab_of] at this; exact this
  rw [hall]
  obtain ⟨p1, p2, p3⟩ := syn_pops hsyn (labelM (K.lab d0.toNat) ++ [105])
  constructor
  · cases c.tab.all (fun t => decide (labelM (K.lab t.toNat) = labelM (K.lab d0.toNat))) with
    | true => rw [Bool.true_and, if_pos rfl]; exact hA.e
    | false => rw [Bool.false_and, if_neg (by simp)]; rfl
  intro h0
  refine (List.append_assoc code [f8] (c.tab.map fun t => jumpM K src t.toNat)) ▸ ?_
  refine h.after hi hn js (xs := f8 :: c.tab.map (ent C)) (ys := f8 :: c.tab.map fun t => jumpM K src t.toNat) hO j1' (by rw [hz]; simp; omega) (by rw [hz]; simp; omega) ?_ ?_ ?_ hA
  · rintro a j ⟨k, t, w1, w2, rfl, rfl⟩
    have ht := List.mem_of_getElem? w1
    have hk := (List.getElem?_eq_some_iff.1 w1).1
    have htl := hlt t ht
    refine ⟨by omega, by omega, by simp; omega, fun c' hc' => ?_⟩
    rw [h.labcs htl hc']
    refine ⟨(h.entry htl).2.2.1.1 w2, jumpM K src t.toNat, ?_, rfl⟩
    rw [show C.code.length + 1 + k - C.code.length = k + 1 by omega, List.getElem?_cons_succ, List.getElem?_map, w1]; rfl
  · rintro a j1 j2 ⟨k1, t1, w1, _, e1, rfl⟩ ⟨k2, t2, w2, _, e2, rfl⟩
    obtain rfl : k1 = k2 := by omega
    rw [w1] at w2
    simp only [Option.some.injEq] at w2
    rw [w2]
  · intro k x y hx hy
    cases k with
    | zero =>
      simp only [List.getElem?_cons_zero, Option.some.injEq] at hx hy
      subst hx hy
      exact ⟨rfl, rfl, rfl, fun _ => rfl⟩
    | succ k =>
      rw [List.getElem?_cons_succ, List.getElem?_map] at hx hy
      cases hk : c.tab[k]? with
      | none => rw [hk] at hx; cases hx
      | some t =>
        rw [hk] at hx hy
        simp only [Option.map_some, Option.some.injEq] at hx hy
        subst hx hy
        obtain ⟨n1, n2, n3, n4⟩ := h.entry (hlt t (List.mem_of_getElem? hk))
        refine ⟨rfl, ?_, ?_, fun hp => ?_⟩
        · show ((lab C t.toNat).carry.length : Int) = _; rw [n1]; rfl
        · show ((lab C t.toNat).height : Int) = _; rw [n2]; rfl
        · exact n4 fun hneg => hp _ ⟨k, t, hk, hneg, by omega, rfl⟩
end Go.Wl
