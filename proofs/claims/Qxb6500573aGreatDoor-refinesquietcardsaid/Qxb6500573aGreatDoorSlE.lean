/- Regions that draw their order: one walk, in an order in which whatever only looks is taken as soon as it may come up. -/
import Derived.Test.Qxb6500573aGreatDoorSlD
namespace Go.Sl
open Go

section
variable {P : Program} {ops : Array Oper} {Q : Exit → Act → World → Prop} {md : Region.Mode}

/-- Behind every operation, as long as number 's' has not come up, 'S' holds. -/
def wpAnyT (P : Program) (md : Region.Mode) (ops : Array Oper) (Q : Exit → Act → World → Prop) (s : Nat) (S : World → Prop) : Nat → Array Bool → Act → World → Prop
  | 0, l, a, w => Region.ready md ops l = [] ∧ Q .normal a w
  | fuel + 1, l, a, w =>
    (Region.ready md ops l = [] → Q .normal a w) ∧
    ∀ i ∈ Region.ready md ops l, wpOp P ops Q i (fun a' w' => ((l.setIfInBounds i true).getD s false = false → S w') ∧ wpAnyT P md ops Q s S fuel (l.setIfInBounds i true) a' w') a w

theorem wpAny_of_T {s : Nat} {S : World → Prop} : ∀ (fuel : Nat) (l : Array Bool) (a : Act) (w : World), wpAnyT P md ops Q s S fuel l a w → wpAny P md ops Q fuel l a w
  | 0, _, _, _, h => h
  | fuel + 1, _, _, _, h => ⟨h.1, fun i hi => wpOp_mono (fun a' w' h' => wpAny_of_T fuel _ a' w' h'.2) (h.2 i hi)⟩

def Closed (md : Region.Mode) (ops : Array Oper) (l : Array Bool) : Prop :=
  l.size = ops.size ∧ ∀ j o, ops[j]? = some o → l.getD j false = true → ∀ e ∈ o.after, Region.binds md e = true → l.getD e.on false = true

theorem Closed.set {l : Array Bool} (h : Closed md ops l) {i : Nat} (hi : i ∈ Region.ready md ops l) : Closed md ops (l.setIfInBounds i true) := by
  refine ⟨by simpa using h.1, ?_⟩
  intro j o hj hl e he hb
  obtain ⟨_, o', ho', hall⟩ := mem_ready.1 hi
  by_cases e1 : i = j
  · subst e1
    rw [ho'] at hj; cases hj
    exact getD_set_true (hall e he hb)
  · rw [getD_set_ne false e1] at hl
    exact getD_set_true (h.2 j o hj hl e he hb)

/-- In every world that meets S the operation leaves v and nothing else. -/
def YieldsS (P : Program) (ops : Array Oper) (S : World → Prop) (o : Oper) (v : Value) (a : Act) : Prop :=
  (Region.wanted o (yielded ops a.tmps) = true ∧ ∀ w, S w → (execOp a.eval o).run P w = .ok (.value v) w) ∨
  (Region.wanted o (yielded ops a.tmps) = false ∧ v = undef)

theorem YieldsS.wpOp {S : World → Prop} {i : Nat} {o : Oper} {v : Value} {a : Act} (hi : ops[i]? = some o) (hy : YieldsS P ops S o v a)
    {K : Act → World → Prop} {w : World} (hS : S w) (h : K (a.put o.dst v) w) : wpOp P ops Q i K a w := by
  unfold Go.wpOp
  simp only [hi]
  rcases hy with ⟨hw, hv⟩ | ⟨hw, rfl⟩
  · simp only [hw, if_true, Oper.wp, hv w hS, Oper.upon]; exact .inl h
  · simp only [hw, Bool.false_eq_true, if_false]; exact h

theorem YieldsS.of_same {S : World → Prop} {o : Oper} {v : Value} {a a' : Act} (hy : YieldsS P ops S o v a) (he : execOp a'.eval o = execOp a.eval o)
    (hw : Region.wanted o (yielded ops a'.tmps) = Region.wanted o (yielded ops a.tmps)) : YieldsS P ops S o v a' := by
  unfold YieldsS at *; rw [he, hw]; exact hy

theorem wpOp_putS {S : World → Prop} {j : Nat} {oi oj : Oper} {v : Value} (hj : ops[j]? = some oj) (hap : oi.apart ops oj = true)
    (hsi : ∀ cs b, oi.op ≠ .select cs b) (hsj : ∀ cs b, oj.op ≠ .select cs b)
    (hQ : ∀ c a w, Q (.panic c) (a.put oi.dst v) w → Q (.panic c) a w) {K : Act → World → Prop} {a : Act} {w : World}
    (hy : YieldsS P ops S oi v a) (h : wpOp P ops Q j K (a.put oi.dst v) w) :
    wpOp P ops Q j (fun a' w' => YieldsS P ops S oi v a' ∧ K (a'.put oi.dst v) w') a w := by
  obtain ⟨h1, h2, h3⟩ := Oper.apart_spec hap
  have keep : ∀ (a : Act), YieldsS P ops S oi v a → ∀ u, YieldsS P ops S oi v (a.put oj.dst u) := fun a hy u =>
    hy.of_same (execOp_put oi hsi a oj.dst u h3) (wanted_put oi a oj.dst u h3)
  have keepD : ∀ d, YieldsS P ops S oi v { a with defers := d :: a.defers } := fun d => hy.of_same rfl rfl
  unfold wpOp at *
  simp only [hj] at *
  rw [wanted_put oj a oi.dst v h1] at h
  split
  · rename_i hw
    simp only [hw, if_true] at h
    rcases h with h | ⟨hasks, hlets⟩
    case inr => exact .inr ⟨by unfold Oper.asks at *; rw [execOp_put oj hsj a oi.dst v h1] at hasks; exact hasks, hlets⟩
    refine .inl ?_
    unfold Oper.wp at *
    rw [execOp_put oj hsj a oi.dst v h1] at h
    generalize (execOp a.eval oj).run P w = r at *
    cases r with
    | ok n w' =>
      cases n <;> simp only [Oper.upon] at h ⊢
      case value u => exact ⟨keep a hy u, by rw [← Act.put_comm a v u h2]; exact h⟩
      case skip => exact ⟨keep a hy _, by rw [← Act.put_comm a v undef h2]; exact h⟩
      case defer d =>
        refine ⟨keep _ (keepD d) _, ?_⟩
        rw [← Act.put_comm _ v undef h2, ← Act.put_defers]
        exact h
      case enter f args =>
        refine Calls.mono h fun e w'' he => ?_
        cases e with
        | returned u => exact ⟨keep a hy u, by rw [← Act.put_comm a v u h2]; exact he⟩
        | panicked c => exact hQ _ _ _ he
        | outgrown => exact he
      case row row args => exact Rows.mono h fun u w'' he => ⟨keep a hy u, by rw [← Act.put_comm a v u h2]; exact he⟩
    | halt x w' =>
      cases x <;> simp only [Oper.upon] at h ⊢
      case panic u => exact hQ _ _ _ h
  · rename_i hw
    simp only [hw] at h
    exact ⟨keep a hy _, by rw [← Act.put_comm a v undef h2]; exact h⟩

/-- Does number s wait for number i, by at most n steps more? -/
def waitsN (md : Region.Mode) (ops : Array Oper) : Nat → Nat → Nat → Bool
  | 0, s, i => match ops[s]? with
    | some o => o.after.any fun e => Region.binds md e && e.on == i
    | none => true
  | n + 1, s, i => match ops[s]? with
    | some o => (o.after.any fun e => Region.binds md e && e.on == i) || (o.after.any fun e => Region.binds md e && waitsN md ops n e.on i)
    | none => true
def waits (md : Region.Mode) (ops : Array Oper) (s i : Nat) : Bool := waitsN md ops 9 s i

theorem waits_out {s : Nat} {l : Array Bool} (hc : Closed md ops l) (hs : ops[s]? = none) : l.getD s false = false := by
  have : ops.size ≤ s := by
    rcases Nat.lt_or_ge s ops.size with h' | h'
    · simp [h'] at hs
    · exact h'
  simp [Array.getElem?_eq_none (show l.size ≤ s by rw [hc.1]; exact this)]
theorem waits_dir {s i : Nat} {l : Array Bool} {o : Oper} (hc : Closed md ops l) (hs : ops[s]? = some o) (h : (o.after.any fun e => Region.binds md e && e.on == i) = true) (hi : l.getD i true = false) : l.getD s false = false := by
  obtain ⟨e, he, hb⟩ := Array.any_eq_true'.1 h
  simp only [Bool.and_eq_true, beq_iff_eq] at hb
  cases hl : l.getD s false with
  | false => rfl
  | true =>
    have := hc.2 s o hs hl e he hb.1
    rw [hb.2] at this
    rcases Nat.lt_or_ge i l.size with h' | h'
    · simp [h'] at hi this; rw [hi] at this; cases this
    · simp [Array.getElem?_eq_none h'] at this
theorem waitsN_not {i : Nat} {l : Array Bool} (hc : Closed md ops l) (hi : l.getD i true = false) : ∀ (n s : Nat), waitsN md ops n s i = true → l.getD s false = false
  | 0, s, h => by
    unfold waitsN at h
    cases hs : ops[s]? with
    | none => exact waits_out hc hs
    | some o => simp only [hs] at h; exact waits_dir hc hs h hi
  | n + 1, s, h => by
    unfold waitsN at h
    cases hs : ops[s]? with
    | none => exact waits_out hc hs
    | some o =>
      simp only [hs, Bool.or_eq_true] at h
      rcases h with h | h
      · exact waits_dir hc hs h hi
      · obtain ⟨e, he, hb⟩ := Array.any_eq_true'.1 h
        simp only [Bool.and_eq_true] at hb
        cases hl : l.getD s false with
        | false => rfl
        | true =>
          have h1 := hc.2 s o hs hl e he hb.1
          have h2 := waitsN_not hc hi n e.on hb.2
          rw [h1] at h2; cases h2
theorem waits_not {s i : Nat} {l : Array Bool} (hc : Closed md ops l) (h : waits md ops s i = true) (hi : l.getD i true = false) : l.getD s false = false := waitsN_not hc hi 9 s h

/-- Taken first. 'T': what it needs of the world: nothing, or S (then s waits for it). -/
theorem wpAnyT_first {s : Nat} {S T : World → Prop} {i : Nat} {oi : Oper} {v : Value} (hi : ops[i]? = some oi) (hne : i ≠ s) (hsel : ∀ (j : Nat) (o : Oper) cs b, ops[j]? = some o → o.op ≠ .select cs b)
    (hQ : ∀ c a w, Q (.panic c) (a.put oi.dst v) w → Q (.panic c) a w)
    (hT : ∀ (l : Array Bool) (w : World), Closed md ops l → l.getD i true = false → (l.getD s false = false → S w) → T w) :
    ∀ (fuel : Nat) (l : Array Bool) (a : Act) (w : World), Closed md ops l →
      (∀ j oj, ops[j]? = some oj → j ≠ i → l.getD j true = false → (∀ e ∈ oj.after, Region.binds md e = true → e.on ≠ i) → oi.apart ops oj = true) →
      i ∈ Region.ready md ops l → YieldsS P ops T oi v a → (l.getD s false = false → S w) →
      wpAnyT P md ops Q s S fuel (l.setIfInBounds i true) (a.put oi.dst v) w → wpAnyT P md ops Q s S (fuel + 1) l a w := by
  intro fuel
  induction fuel with
  | zero =>
    intro l a w hc _ hr hy hS H
    have h0 := (mem_ready.1 hr).1
    refine ⟨fun h => (by rw [h] at hr; cases hr), fun j hj => ?_⟩
    by_cases hji : j = i
    · subst hji; exact hy.wpOp hi (hT l w hc h0 hS) ⟨by rw [getD_set_ne false hne]; exact hS, H⟩
    · have := ready_mono hj hji
      rw [H.1] at this
      cases this
  | succ fuel ih =>
    intro l a w hc hfree hr hy hS H
    have h0 := (mem_ready.1 hr).1
    refine ⟨fun h => (by rw [h] at hr; cases hr), fun j hj => ?_⟩
    by_cases hji : j = i
    · subst hji; exact hy.wpOp hi (hT l w hc h0 hS) ⟨by rw [getD_set_ne false hne]; exact hS, H⟩
    · have h1 := H.2 j (ready_mono hj hji)
      obtain ⟨hjun, oj, hoj, hall⟩ := mem_ready.1 hj
      have hnot : ∀ e ∈ oj.after, Region.binds md e = true → e.on ≠ i := fun e he hb heq => by
        have h1 := hall e he hb
        rw [heq] at h1
        rcases Nat.lt_or_ge i l.size with h' | h'
        · simp [h'] at h0 h1; rw [h0] at h1; cases h1
        · simp [Array.getElem?_eq_none h'] at h1
      have h2 := wpOp_putS hoj (hfree j oj hoj hji hjun hnot) (fun cs b => hsel i oi cs b hi) (fun cs b => hsel j oj cs b hoj) hQ hy h1
      have hfree' : ∀ k ok, ops[k]? = some ok → k ≠ i → (l.setIfInBounds j true).getD k true = false →
          (∀ e ∈ ok.after, Region.binds md e = true → e.on ≠ i) → oi.apart ops ok = true := fun k ok hk hki hun hno => by
        refine hfree k ok hk hki ?_ hno
        by_cases hjk : j = k
        · subst hjk; exact hjun
        · rw [getD_set_ne true hjk] at hun; exact hun
      refine wpOp_mono (fun a' w' h3 => ?_) h2
      obtain ⟨hy', hS', H'⟩ := h3
      rw [Array.setIfInBounds_comm _ _ (Ne.symm hji)] at hS' H'
      rw [getD_set_ne false hne] at hS'
      exact ⟨hS', ih (l.setIfInBounds j true) a' w' (hc.set hj) hfree' (ready_mono hr (Ne.symm hji)) hy' hS' H'⟩

/-! ### The order of one's own choice. Kinds: 0: looks nowhere; 1: looks at what S holds still; 2: acts ahead of s; 3: s itself, or behind it. -/

def ordOk (md : Region.Mode) (ops : Array Oper) (s : Nat) : List (Nat × Nat) → Array Bool → Bool
  | [], l => (Region.ready md ops l).isEmpty
  | (i, k) :: rest, l =>
    (match k with
     | 0 => (Region.ready md ops l).contains i && i != s && Region.free md ops l i
     | 1 => (Region.ready md ops l).contains i && i != s && Region.free md ops l i && waits md ops s i
     | 2 => Region.ready md ops l == [i]
     | _ => Region.ready md ops l == [i] && (l.setIfInBounds i true).getD s false) && ordOk md ops s rest (l.setIfInBounds i true)

def wpOrd (P : Program) (ops : Array Oper) (Q : Exit → Act → World → Prop) (S : World → Prop) : List (Nat × Nat) → Act → World → Prop
  | [], a, w => Q .normal a w
  | (i, k) :: rest, a, w =>
    match k with
    | 0 => ∃ o v, ops[i]? = some o ∧ YieldsS P ops (fun _ => True) o v a ∧ wpOrd P ops Q S rest (a.put o.dst v) w
    | 1 => ∃ o v, ops[i]? = some o ∧ YieldsS P ops S o v a ∧ wpOrd P ops Q S rest (a.put o.dst v) w
    | 2 => wpOp P ops Q i (fun a' w' => S w' ∧ wpOrd P ops Q S rest a' w') a w
    | _ => wpOp P ops Q i (fun a' w' => wpOrd P ops Q S rest a' w') a w

theorem wpAnyT_of_ord {s : Nat} {S : World → Prop} (hs : Region.noSelect ops = true) (hQ : ∀ (o : Oper) (v : Value) c a w, Q (.panic c) (a.put o.dst v) w → Q (.panic c) a w) :
    ∀ (ord : List (Nat × Nat)) (l : Array Bool) (a : Act) (w : World), Closed md ops l → ordOk md ops s ord l = true → (l.getD s false = false → S w) → wpOrd P ops Q S ord a w →
      wpAnyT P md ops Q s S ord.length l a w
  | [], l, a, w, _, hB, _, h => ⟨by simpa [ordOk] using hB, h⟩
  | (i, k) :: rest, l, a, w, hc, hB, hS, h => by
    simp only [ordOk, Bool.and_eq_true] at hB
    obtain ⟨hk, hB'⟩ := hB
    have act : ∀ (ready : Region.ready md ops l = [i]) (K : Act → World → Prop), wpOp P ops Q i K a w → (∀ a' w', K a' w' → ((l.setIfInBounds i true).getD s false = false → S w') ∧ wpOrd P ops Q S rest a' w') →
        wpAnyT P md ops Q s S (rest.length + 1) l a w := fun hr K hK hKK => by
      have hmem : i ∈ Region.ready md ops l := by rw [hr]; simp
      refine ⟨fun h0 => by rw [hr] at h0; simp at h0, fun j hj => ?_⟩
      rw [hr] at hj
      simp at hj; subst hj
      refine wpOp_mono (fun a' w' hk => ?_) hK
      obtain ⟨h1, h2⟩ := hKK a' w' hk
      exact ⟨h1, wpAnyT_of_ord hs hQ rest _ a' w' (hc.set hmem) hB' h1 h2⟩
    match k, hk, h with
    | 0, hk, h =>
      simp only [Bool.and_eq_true, bne_iff_ne, ne_eq] at hk
      obtain ⟨⟨hr, hne⟩, hf⟩ := hk
      obtain ⟨o, v, ho, hy, hK⟩ := h
      have hr' : i ∈ Region.ready md ops l := by simpa using hr
      exact wpAnyT_first (T := fun _ => True) ho hne (Region.noSelect_spec hs) (hQ o v) (fun _ _ _ _ _ => trivial) rest.length l a w hc (Region.free_spec ho hf) hr' hy hS
        (wpAnyT_of_ord hs hQ rest _ _ w (hc.set hr') hB' (by rw [getD_set_ne false hne]; exact hS) hK)
    | 1, hk, h =>
      simp only [Bool.and_eq_true, bne_iff_ne, ne_eq] at hk
      obtain ⟨⟨⟨hr, hne⟩, hf⟩, hw⟩ := hk
      obtain ⟨o, v, ho, hy, hK⟩ := h
      have hr' : i ∈ Region.ready md ops l := by simpa using hr
      exact wpAnyT_first (T := S) ho hne (Region.noSelect_spec hs) (hQ o v) (fun l w hc h0 hS => hS (waits_not hc hw h0)) rest.length l a w hc (Region.free_spec ho hf) hr' hy hS
        (wpAnyT_of_ord hs hQ rest _ _ w (hc.set hr') hB' (by rw [getD_set_ne false hne]; exact hS) hK)
    | 2, hk, h =>
      simp only [wpOrd] at h
      exact act (by simpa using hk) _ h (fun a' w' hk => ⟨fun _ => hk.1, hk.2⟩)
    | k + 3, hk, h =>
      simp only [Bool.and_eq_true] at hk
      simp only [wpOrd] at h
      exact act (by simpa using hk.1) _ h (fun a' w' hk' => ⟨fun h0 => by rw [hk.2] at h0; simp at h0, hk'⟩)

theorem wp_region_ord {id : Nat} {a : Act} {w : World} {S : World → Prop} (s : Nat) (ord : List (Nat × Nat)) (hm : P.follows .mixedOrders = true)
    (hB : (Region.noSelect ops && (ord.length == ops.size) && ordOk .any ops s ord (Array.replicate ops.size false)) = true)
    (hQ : ∀ (o : Oper) (v : Value) c a w, Q (.panic c) (a.put o.dst v) w → Q (.panic c) a w) (hS : S w.drew) (h : wpOrd P ops Q S ord a w.drew) : (Code.region id ops true).wp P Q a w := by
  simp only [Bool.and_eq_true, beq_iff_eq] at hB
  obtain ⟨⟨h1, h2⟩, h3⟩ := hB
  refine wp_region_any hm (wpAny_of_T (s := s) (S := S) _ _ _ _ ?_)
  have hc : Closed .any ops (Array.replicate ops.size false) := by
    refine ⟨by simp, ?_⟩
    intro j o _ hl
    by_cases hj : j < ops.size
    · simp [hj] at hl
    · simp [hj] at hl
  have := wpAnyT_of_ord (P := P) (Q := Q) (S := S) h1 hQ ord (Array.replicate ops.size false) a w.drew hc h3 (fun _ => hS) h
  rw [h2] at this
  exact this

end

/-! ### In the logic -/
section
variable {P : Program} {n : Nat} {Q : Post} {D : Defs} {ρ : Env} {H : Hp} {ops : Array Oper} {Hs : Hp}

/-- The post at a panic does not look at the slots. -/
def Blind (Q : Post) : Prop := ∀ c D ρ ρ' H, Q (.panic c) D ρ H → Q (.panic c) D ρ' H

def SPO (P : Program) (n : Nat) (ops : Array Oper) (Q : Post) (Hs : Hp) (ord : List (Nat × Nat)) (D : Defs) (ρ : Env) (H : Hp) : Prop :=
  ∀ A F a w, Fits n D ρ a → Own A w (List.flatten H ++ F) → wpOrd P ops (sem n A F Q) (fun w => Own A w (List.flatten Hs)) ord a w

theorem SP_draw {id : Nat} (s : Nat) (ord : List (Nat × Nat)) {rest : Hp} (hm : P.follows .mixedOrders = true)
    (hB : (Region.noSelect ops && (ord.length == ops.size) && ordOk .any ops s ord (Array.replicate ops.size false)) = true) (hb : Blind Q) (hp : Part H Hs rest)
    (h : SPO P n ops Q Hs ord D ρ H) : SP P n (.region id ops true) Q D ρ H := fun A F a w hf ho => by
  refine wp_region_ord (S := fun w => Own A w (List.flatten Hs)) s ord hm hB ?_ (hp.drop ho.drew).left (h A F a w.drew hf ho.drew)
  intro o v c a w hq
  obtain ⟨ρ, H, h1, h2, h3⟩ := hq
  have hd : (a.put o.dst v).defers = a.defers := by cases o.dst <;> rfl
  have hz : (a.put o.dst v).tmps.size = a.tmps.size := by cases o.dst <;> simp [Act.put]
  exact ⟨[], H, ⟨by rw [← hz]; exact h1.size, rfl, fun i v hv => by simp [look] at hv⟩, h2, by rw [← hd]; exact hb _ _ _ _ _ h3⟩

theorem SPO_nil (h : Q .normal D ρ H) : SPO P n ops Q Hs [] D ρ H :=
  fun _ _ _ _ hf ho => ⟨ρ, H, by rw [hf.defers]; exact hf, ho, by rw [hf.defers]; exact h⟩

theorem Own.self (w : World) : Own w w [] := ⟨rfl, rfl, rfl, by simp, fun p hp => by cases hp⟩

theorem SPO_p {i d : Nat} {op : Op} {ty : TypeId} {pos : String} {af : Array Edge} {v : Value} {ord : List (Nat × Nat)} (hi : ops[i]? = some { dst := some d, op := op, type := ty, pos := pos, after := af, guard := none })
    (hy : Yo P n op ty ρ [] v) (hd : Nat.ble (d + 1) n = true) (k : SPO P n ops Q Hs ord D ((d, v) :: ρ) H) : SPO P n ops Q Hs ((i, 0) :: ord) D ρ H := fun A F a w hf ho =>
  ⟨_, v, hi, .inl ⟨by simp [Region.wanted], fun w' _ => hy D a w' [] w' hf (Own.self w') (fun p hp => by simp at hp)⟩, k A F _ w (hf.put hd v) ho⟩
theorem SPO_h {i d : Nat} {op : Op} {ty : TypeId} {pos : String} {af : Array Edge} {v : Value} {ord : List (Nat × Nat)} (hi : ops[i]? = some { dst := some d, op := op, type := ty, pos := pos, after := af, guard := none })
    (hy : Yo P n op ty ρ Hs v) (hd : Nat.ble (d + 1) n = true) (k : SPO P n ops Q Hs ord D ((d, v) :: ρ) H) : SPO P n ops Q Hs ((i, 1) :: ord) D ρ H := fun A F a w hf ho =>
  ⟨_, v, hi, .inl ⟨by simp [Region.wanted], fun w' hw' => hy D a A _ w' hf hw' (fun p hp => hp)⟩, k A F _ w (hf.put hd v) ho⟩

/-- Guards, struck where they say yes. -/
theorem SPO_py {i d j t : Nat} {b : Bool} {op : Op} {ty : TypeId} {pos : String} {af : Array Edge} {v : Value} {ord : List (Nat × Nat)} (hi : ops[i]? = some { dst := some d, op := op, type := ty, pos := pos, after := af, guard := some (j, b) })
    (hj : (ops[j]?).bind (·.dst) = some t) (ht : look ρ t = some (.bool b)) (hy : Yo P n op ty ρ [] v) (hd : Nat.ble (d + 1) n = true) (k : SPO P n ops Q Hs ord D ((d, v) :: ρ) H) : SPO P n ops Q Hs ((i, 0) :: ord) D ρ H := fun A F a w hf ho =>
  ⟨_, v, hi, .inl ⟨by simp [Region.wanted, yielded, hj, hf.get t _ ht], fun w' _ => hy D a w' [] w' hf (Own.self w') (fun p hp => by simp at hp)⟩, k A F _ w (hf.put hd v) ho⟩
theorem SPO_hy {i d j t : Nat} {b : Bool} {op : Op} {ty : TypeId} {pos : String} {af : Array Edge} {v : Value} {ord : List (Nat × Nat)} (hi : ops[i]? = some { dst := some d, op := op, type := ty, pos := pos, after := af, guard := some (j, b) })
    (hj : (ops[j]?).bind (·.dst) = some t) (ht : look ρ t = some (.bool b)) (hy : Yo P n op ty ρ Hs v) (hd : Nat.ble (d + 1) n = true) (k : SPO P n ops Q Hs ord D ((d, v) :: ρ) H) : SPO P n ops Q Hs ((i, 1) :: ord) D ρ H := fun A F a w hf ho =>
  ⟨_, v, hi, .inl ⟨by simp [Region.wanted, yielded, hj, hf.get t _ ht], fun w' hw' => hy D a A _ w' hf hw' (fun p hp => hp)⟩, k A F _ w (hf.put hd v) ho⟩
/-- and where they say no (kinds 0 and 1). -/
theorem SPO_gn {i d j t k : Nat} {b c : Bool} {op : Op} {ty : TypeId} {pos : String} {af : Array Edge} {ord : List (Nat × Nat)} (hk : k = 0 ∨ k = 1) (hi : ops[i]? = some { dst := some d, op := op, type := ty, pos := pos, after := af, guard := some (j, b) })
    (hj : (ops[j]?).bind (·.dst) = some t) (ht : look ρ t = some (.bool c)) (hc : (c == b) = false) (hd : Nat.ble (d + 1) n = true) (kk : SPO P n ops Q Hs ord D ((d, undef) :: ρ) H) : SPO P n ops Q Hs ((i, k) :: ord) D ρ H := fun A F a w hf ho => by
  have hw : Region.wanted { dst := some d, op := op, type := ty, pos := pos, after := af, guard := some (j, b) : Oper } (yielded ops a.tmps) = false := by
    simp [Region.wanted, yielded, hj, hf.get t _ ht]; simpa using hc
  rcases hk with rfl | rfl
  · exact ⟨_, undef, hi, .inr ⟨hw, rfl⟩, kk A F _ w (hf.put hd undef) ho⟩
  · exact ⟨_, undef, hi, .inr ⟨hw, rfl⟩, kk A F _ w (hf.put hd undef) ho⟩
theorem SPO_gu {i d j t k : Nat} {b : Bool} {op : Op} {ty : TypeId} {pos : String} {af : Array Edge} {ord : List (Nat × Nat)} (hk : k = 0 ∨ k = 1) (hi : ops[i]? = some { dst := some d, op := op, type := ty, pos := pos, after := af, guard := some (j, b) })
    (hj : (ops[j]?).bind (·.dst) = some t) (ht : look ρ t = some undef) (hd : Nat.ble (d + 1) n = true) (kk : SPO P n ops Q Hs ord D ((d, undef) :: ρ) H) : SPO P n ops Q Hs ((i, k) :: ord) D ρ H := fun A F a w hf ho => by
  have hw : Region.wanted { dst := some d, op := op, type := ty, pos := pos, after := af, guard := some (j, b) : Oper } (yielded ops a.tmps) = false := by
    simp [Region.wanted, yielded, hj, hf.get t _ ht, undef]
  rcases hk with rfl | rfl
  · exact ⟨_, undef, hi, .inr ⟨hw, rfl⟩, kk A F _ w (hf.put hd undef) ho⟩
  · exact ⟨_, undef, hi, .inr ⟨hw, rfl⟩, kk A F _ w (hf.put hd undef) ho⟩

/-- An operation that acts, ahead of the switch: what is held still is shown anew. -/
theorem SPO_a {i : Nat} {o : Oper} {ord : List (Nat × Nat)} (hi : ops[i]? = some o) (hg : o.guard = none)
    (h : SP1 P n o Q (fun D ρ H => (∃ rest, Part H Hs rest) ∧ SPO P n ops Q Hs ord D ρ H) D ρ H) : SPO P n ops Q Hs ((i, 2) :: ord) D ρ H := fun A F a w hf ho => by
  simp only [wpOrd]
  unfold wpOp
  simp only [hi]
  rw [if_pos (by simp [Region.wanted, hg])]
  refine .inl (Oper.wp_mono (fun a w hk => ?_) (h A F a w hf ho))
  obtain ⟨ρ, H, k1, k2, ⟨rest, k3⟩, k4⟩ := hk
  exact ⟨(k3.drop k2).left, k4 A F a w k1 k2⟩
/-- The switch, and what comes behind it. -/
theorem SPO_z {i k : Nat} {o : Oper} {ord : List (Nat × Nat)} (hi : ops[i]? = some o) (hg : o.guard = none)
    (h : SP1 P n o Q (fun D ρ H => SPO P n ops Q Hs ord D ρ H) D ρ H) : SPO P n ops Q Hs ((i, k + 3) :: ord) D ρ H := fun A F a w hf ho => by
  simp only [wpOrd]
  unfold wpOp
  simp only [hi]
  rw [if_pos (by simp [Region.wanted, hg])]
  refine .inl (Oper.wp_mono (fun a w hk => ?_) (h A F a w hf ho))
  obtain ⟨ρ, H, k1, k2, k4⟩ := hk
  exact k4 A F a w k1 k2
end
end Go.Sl
