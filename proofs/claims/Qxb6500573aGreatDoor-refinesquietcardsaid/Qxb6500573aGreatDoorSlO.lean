/- Regions that draw their order, where two operations that act may come up at once: both ways are walked. -/
import Derived.Test.Qxb6500573aGreatDoorSlN
namespace Go.Sl
open Go

section
variable {P : Program} {ops : Array Oper} {Q : Exit → Act → World → Prop} {md : Region.Mode}

def stepL : List (Nat × Nat) → Array Bool → Array Bool
  | [], l => l
  | (i, _) :: rest, l => stepL rest (l.setIfInBounds i true)
def ordPre (md : Region.Mode) (ops : Array Oper) (s : Nat) : List (Nat × Nat) → Array Bool → Bool
  | [], _ => true
  | (i, k) :: rest, l =>
    (match k with
     | 0 => (Region.ready md ops l).contains i && i != s && Region.free md ops l i
     | _ => (Region.ready md ops l).contains i && i != s && Region.free md ops l i && waits md ops s i) && ordPre md ops s rest (l.setIfInBounds i true)
def wpPre (P : Program) (ops : Array Oper) (S : World → Prop) (K : Act → World → Prop) : List (Nat × Nat) → Act → World → Prop
  | [], a, w => K a w
  | (i, k) :: rest, a, w =>
    match k with
    | 0 => ∃ o v, ops[i]? = some o ∧ YieldsS P ops (fun _ => True) o v a ∧ wpPre P ops S K rest (a.put o.dst v) w
    | _ => ∃ o v, ops[i]? = some o ∧ YieldsS P ops S o v a ∧ wpPre P ops S K rest (a.put o.dst v) w
theorem wpAnyT_of_pre {s : Nat} {S : World → Prop} {K : Act → World → Prop} {fuel : Nat} (hs : Region.noSelect ops = true) (hQ : ∀ (o : Oper) (v : Value) c a w, Q (.panic c) (a.put o.dst v) w → Q (.panic c) a w) :
    ∀ (ord : List (Nat × Nat)) (l : Array Bool) (a : Act) (w : World), Closed md ops l → ordPre md ops s ord l = true → (l.getD s false = false → S w) →
      (∀ a w, Closed md ops (stepL ord l) → ((stepL ord l).getD s false = false → S w) → K a w → wpAnyT P md ops Q s S fuel (stepL ord l) a w) → wpPre P ops S K ord a w →
      wpAnyT P md ops Q s S (ord.length + fuel) l a w
  | [], l, a, w, hc, _, hS, hK, h => by
    rw [show ([] : List (Nat × Nat)).length + fuel = fuel from by simp]; exact hK a w hc hS h
  | (i, k) :: rest, l, a, w, hc, hB, hS, hK, h => by
    simp only [ordPre, Bool.and_eq_true] at hB
    obtain ⟨hk, hB'⟩ := hB
    rw [show ((i, k) :: rest).length + fuel = (rest.length + fuel) + 1 from by simp; omega]
    match k, hk, h with
    | 0, hk, h =>
      simp only [Bool.and_eq_true, bne_iff_ne, ne_eq] at hk
      obtain ⟨⟨hr, hne⟩, hf⟩ := hk
      obtain ⟨o, v, ho, hy, hKK⟩ := h
      have hr' : i ∈ Region.ready md ops l := by simpa using hr
      exact wpAnyT_first (T := fun _ => True) ho hne (Region.noSelect_spec hs) (hQ o v) (fun _ _ _ _ _ => trivial) (rest.length + fuel) l a w hc (Region.free_spec ho hf) hr' hy hS
        (wpAnyT_of_pre hs hQ rest _ _ w (hc.set hr') hB' (by rw [getD_set_ne false hne]; exact hS) hK hKK)
    | k + 1, hk, h =>
      simp only [Bool.and_eq_true, bne_iff_ne, ne_eq] at hk
      obtain ⟨⟨⟨hr, hne⟩, hf⟩, hw⟩ := hk
      obtain ⟨o, v, ho, hy, hKK⟩ := h
      have hr' : i ∈ Region.ready md ops l := by simpa using hr
      exact wpAnyT_first (T := S) ho hne (Region.noSelect_spec hs) (hQ o v) (fun l w hc h0 hS => hS (waits_not hc hw h0)) (rest.length + fuel) l a w hc (Region.free_spec ho hf) hr' hy hS
        (wpAnyT_of_pre hs hQ rest _ _ w (hc.set hr') hB' (by rw [getD_set_ne false hne]; exact hS) hK hKK)
end

section
variable {P : Program} {n : Nat} {Q : Post} {D : Defs} {ρ : Env} {H : Hp} {ops : Array Oper} {Hs : Hp}
/-- From the state 'l' of the region on. -/
def SPG (P : Program) (n : Nat) (ops : Array Oper) (Q : Post) (Hs : Hp) (s fuel : Nat) (l : Array Bool) (D : Defs) (ρ : Env) (H : Hp) : Prop :=
  ∀ A F a w, Fits n D ρ a → Own A w (List.flatten H ++ F) → Closed .any ops l → (l.getD s false = false → Own A w (List.flatten Hs)) → wpAnyT P .any ops (sem n A F Q) s (fun w => Own A w (List.flatten Hs)) fuel l a w
def SPP (P : Program) (n : Nat) (ops : Array Oper) (Hs : Hp) (pre : List (Nat × Nat)) (K : Kont) (D : Defs) (ρ : Env) (H : Hp) : Prop :=
  ∀ A F a w, Fits n D ρ a → Own A w (List.flatten H ++ F) → wpPre P ops (fun w => Own A w (List.flatten Hs)) (semK n A F K) pre a w
theorem blind_sem {A : World} {F : Seg} (hb : Blind Q) : ∀ (o : Oper) (v : Value) c a w, sem n A F Q (.panic c) (a.put o.dst v) w → sem n A F Q (.panic c) a w := by
  intro o v c a w hq
  obtain ⟨ρ, H, h1, h2, h3⟩ := hq
  have hd : (a.put o.dst v).defers = a.defers := by cases o.dst <;> rfl
  have hz : (a.put o.dst v).tmps.size = a.tmps.size := by cases o.dst <;> simp [Act.put]
  exact ⟨[], H, ⟨by rw [← hz]; exact h1.size, rfl, fun i v hv => by simp [look] at hv⟩, h2, by rw [← hd]; exact hb _ _ _ _ _ h3⟩
theorem SP_drawG {id : Nat} (s : Nat) {rest : Hp} (hm : P.follows .mixedOrders = true) (hp : Part H Hs rest) (h : SPG P n ops Q Hs s ops.size (Array.replicate ops.size false) D ρ H) : SP P n (.region id ops true) Q D ρ H := fun A F a w hf ho => by
  refine wp_region_any hm (wpAny_of_T (s := s) (S := fun w => Own A w (List.flatten Hs)) _ _ _ _ ?_)
  refine h A F a w.drew hf ho.drew ⟨by simp, ?_⟩ (fun _ => (hp.drop ho.drew).left)
  intro j o _ hl
  by_cases hj : j < ops.size
  · simp [hj] at hl
  · simp [hj] at hl
theorem SPG_ord {s fuel : Nat} {l : Array Bool} (ord : List (Nat × Nat)) (hB : (Region.noSelect ops && (ord.length == fuel) && ordOk .any ops s ord l) = true) (hb : Blind Q) (h : SPO P n ops Q Hs ord D ρ H) : SPG P n ops Q Hs s fuel l D ρ H := fun A F a w hf ho hc hS => by
  simp only [Bool.and_eq_true, beq_iff_eq] at hB
  obtain ⟨⟨h1, h2⟩, h3⟩ := hB
  have := wpAnyT_of_ord (P := P) (S := fun w => Own A w (List.flatten Hs)) h1 (blind_sem hb) ord l a w hc h3 hS (h A F a w hf ho)
  rwa [h2] at this
theorem SPG_pre {s fuel fuel' : Nat} {l : Array Bool} (pre : List (Nat × Nat)) (hB : (Region.noSelect ops && (pre.length + fuel' == fuel) && ordPre .any ops s pre l) = true) (hb : Blind Q)
    (h : SPP P n ops Hs pre (fun D ρ H => SPG P n ops Q Hs s fuel' (stepL pre l) D ρ H) D ρ H) : SPG P n ops Q Hs s fuel l D ρ H := fun A F a w hf ho hc hS => by
  simp only [Bool.and_eq_true, beq_iff_eq] at hB
  obtain ⟨⟨h1, h2⟩, h3⟩ := hB
  have := wpAnyT_of_pre (P := P) (Q := sem n A F Q) (S := fun w => Own A w (List.flatten Hs)) (K := semK n A F (fun D ρ H => SPG P n ops Q Hs s fuel' (stepL pre l) D ρ H)) (fuel := fuel') h1 (blind_sem hb) pre l a w hc h3 hS
    (fun a w hcl hS' hK => by obtain ⟨ρ, H, k1, k2, k3⟩ := hK; exact k3 A F a w k1 k2 hcl hS') (h A F a w hf ho)
  rwa [h2] at this
theorem SPP_nil {K : Kont} (h : K D ρ H) : SPP P n ops Hs [] K D ρ H := fun A F a w hf ho => ⟨ρ, H, by rw [hf.defers]; exact hf, ho, by rw [hf.defers]; exact h⟩
theorem SPP_p {K : Kont} {i d : Nat} {op : Op} {ty : TypeId} {pos : String} {af : Array Edge} {v : Value} {ord : List (Nat × Nat)} (hi : ops[i]? = some { dst := some d, op := op, type := ty, pos := pos, after := af, guard := none })
    (hy : Yo P n op ty ρ [] v) (hd : Nat.ble (d + 1) n = true) (k : SPP P n ops Hs ord K D ((d, v) :: ρ) H) : SPP P n ops Hs ((i, 0) :: ord) K D ρ H := fun A F a w hf ho =>
  ⟨_, v, hi, .inl ⟨by simp [Region.wanted], fun w' _ => hy D a w' [] w' hf (Own.self w') (fun p hp => by simp at hp)⟩, k A F _ w (hf.put hd v) ho⟩
theorem SPP_h {K : Kont} {i d : Nat} {op : Op} {ty : TypeId} {pos : String} {af : Array Edge} {v : Value} {ord : List (Nat × Nat)} (hi : ops[i]? = some { dst := some d, op := op, type := ty, pos := pos, after := af, guard := none })
    (hy : Yo P n op ty ρ Hs v) (hd : Nat.ble (d + 1) n = true) (k : SPP P n ops Hs ord K D ((d, v) :: ρ) H) : SPP P n ops Hs ((i, 1) :: ord) K D ρ H := fun A F a w hf ho =>
  ⟨_, v, hi, .inl ⟨by simp [Region.wanted], fun w' hw' => hy D a A _ w' hf hw' (fun p hp => hp)⟩, k A F _ w (hf.put hd v) ho⟩
/-- Both ways. -/
theorem SPG_two {s fuel i j : Nat} {l : Array Bool} {oi oj : Oper} (hr : (Region.ready .any ops l == [i, j]) = true) (hi : ops[i]? = some oi) (hgi : oi.guard = none) (hj : ops[j]? = some oj) (hgj : oj.guard = none)
    (h1 : SP1 P n oi Q (fun D ρ H => (i ≠ s → ∃ rest, Part H Hs rest) ∧ SPG P n ops Q Hs s fuel (l.setIfInBounds i true) D ρ H) D ρ H)
    (h2 : SP1 P n oj Q (fun D ρ H => (j ≠ s → ∃ rest, Part H Hs rest) ∧ SPG P n ops Q Hs s fuel (l.setIfInBounds j true) D ρ H) D ρ H) : SPG P n ops Q Hs s (fuel + 1) l D ρ H := fun A F a w hf ho hc hS => by
  rw [beq_iff_eq] at hr
  have key : ∀ (q : Nat) (oq : Oper), q ∈ Region.ready .any ops l → ops[q]? = some oq → oq.guard = none → SP1 P n oq Q (fun D ρ H => (q ≠ s → ∃ rest, Part H Hs rest) ∧ SPG P n ops Q Hs s fuel (l.setIfInBounds q true) D ρ H) D ρ H →
      wpOp P ops (sem n A F Q) q (fun a' w' => ((l.setIfInBounds q true).getD s false = false → Own A w' (List.flatten Hs)) ∧ wpAnyT P .any ops (sem n A F Q) s (fun w => Own A w (List.flatten Hs)) fuel (l.setIfInBounds q true) a' w') a w := by
    intro q oq hq ho' hg h
    unfold wpOp
    simp only [ho']
    rw [if_pos (by simp [Region.wanted, hg])]
    refine .inl (Oper.wp_mono (fun a w hk => ?_) (h A F a w hf ho))
    obtain ⟨ρ, H, k1, k2, k3, k4⟩ := hk
    have hSS : (l.setIfInBounds q true).getD s false = false → Own A w (List.flatten Hs) := by
      intro h0
      by_cases e : q = s
      · subst e
        have hlt : q < l.size := by
          rw [hc.1]
          rcases Nat.lt_or_ge q ops.size with h' | h'
          · exact h'
          · simp [Array.getElem?_eq_none h'] at ho'
        simp [hlt] at h0
      · obtain ⟨rest, k5⟩ := k3 e; exact (k5.drop k2).left
    exact ⟨hSS, k4 A F a w k1 k2 (hc.set hq) hSS⟩
  refine ⟨fun h0 => by rw [hr] at h0; simp at h0, fun q hq => ?_⟩
  have hq0 := hq
  rw [hr] at hq
  simp at hq
  rcases hq with rfl | rfl
  · exact key _ _ hq0 hi hgi h1
  · exact key _ _ hq0 hj hgj h2
end
end Go.Sl
