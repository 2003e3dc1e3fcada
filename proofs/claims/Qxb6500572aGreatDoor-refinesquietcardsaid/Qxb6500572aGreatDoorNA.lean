/- The two validators: the operand stack. -/
import Derived.Test.Qxb6500572aGreatDoorMC
namespace Go.Wl
open Go Go.Sl
set_option linter.unusedVariables false
/-- The operands, and the top block's floor and reach, agree. -/
structure Syn (C : Chk) (K : Km) : Prop where
  st : K.st = C.st
  ht : K.top.height = C.top.height
  dd : K.top.dead = C.top.dead
theorem pop_C (C : Chk) (w : UInt8) : (pop C w).1 = { C with st := (pop C w).1.st } := by
  unfold pop; split <;> (try split) <;> rfl
theorem syn_pop {C : Chk} {K : Km} (h : Syn C K) (w : UInt8) : popM K w = ({ K with st := (pop C w).1.st }, (pop C w).2.1, (pop C w).2.2) := by
  obtain ⟨h1, h2, h3⟩ := h
  unfold popM pop
  rw [h1, h2, h3]
  split
  · rw [← h1]
  · split <;> rfl
theorem Syn.pop {C : Chk} {K : Km} (h : Syn C K) (w : UInt8) : Syn (pop C w).1 (popM K w).1 := by
  rw [syn_pop h]
  refine ⟨rfl, ?_, ?_⟩
  · rw [show (Wl.pop C w).1.top = C.top by unfold Chk.top; rw [pop_C]]; exact h.ht
  · rw [show (Wl.pop C w).1.top = C.top by unfold Chk.top; rw [pop_C]]; exact h.dd
theorem syn_popsR : ∀ (l : List UInt8) {C : Chk} {K : Km}, Syn C K → popsRM K l = ({ K with st := (popsR C l).1.st }, decide ((popsR C l).2 = 0)) ∧ ((popsR C l).2 = 0 ∨ (popsR C l).2 = 6) ∧ (popsR C l).1 = { C with st := (popsR C l).1.st }
  | [], C, K, h => ⟨by unfold popsRM popsR; rw [← h.st]; rfl, .inl rfl, rfl⟩
  | t :: ts, C, K, h => by
    have hp := syn_pop h t
    have h1 := h.pop t
    have ih := syn_popsR ts h1
    unfold popsRM popsR
    have hb : (popM K t).2.2 = (pop C t).2.2 := by rw [hp]
    rw [hb]
    split
    · refine ⟨?_, ih.2.1, ?_⟩
      · rw [ih.1]
        have : (popM K t).1.cs = K.cs := by rw [hp]
        simp only [this]
      · rw [ih.2.2, pop_C]
    · refine ⟨?_, .inr rfl, pop_C C t⟩
      rw [hp]; rfl
theorem syn_pops {C : Chk} {K : Km} (h : Syn C K) (l : List UInt8) : popsM K l = ({ K with st := (pops C l).1.st }, decide ((pops C l).2 = 0)) ∧ ((pops C l).2 = 0 ∨ (pops C l).2 = 6) ∧ (pops C l).1 = { C with st := (pops C l).1.st } := syn_popsR _ h
theorem typed_dec {e : Int} (h : e = 0 ∨ e = 6) : typedM (decide (e = 0)) = e := by
  rcases h with rfl | rfl <;> rfl
theorem Syn.of {C C' : Chk} {K K' : Km} (h : Syn C K) (h1 : C'.opn = C.opn) (h2 : K'.cs = K.cs) (h3 : K'.st = C'.st) : Syn C' K' :=
  ⟨h3, by rw [show K'.top = K.top by unfold Km.top; rw [h2], show C'.top = C.top by unfold Chk.top; rw [h1]]; exact h.ht, by rw [show K'.top = K.top by unfold Km.top; rw [h2], show C'.top = C.top by unfold Chk.top; rw [h1]]; exact h.dd⟩
theorem Syn.pops {C : Chk} {K : Km} (h : Syn C K) (l : List UInt8) : Syn (pops C l).1 (popsM K l).1 := by
  obtain ⟨h1, _, h3⟩ := syn_pops h l
  refine h.of ?_ ?_ ?_
  · rw [h3]
  · rw [h1]
  · rw [h1]
theorem syn_swap {C : Chk} {K : Km} (h : Syn C K) (i o : List UInt8) : swapM K i o = ({ K with st := (swap C i o).1.st }, decide ((swap C i o).2 = 0)) ∧ ((swap C i o).2 = 0 ∨ (swap C i o).2 = 6) ∧ (swap C i o).1 = { C with st := (swap C i o).1.st } := by
  obtain ⟨h1, h2, h3⟩ := syn_pops h i
  unfold swapM swap
  refine ⟨?_, h2, ?_⟩
  · rw [h1]
  · dsimp only; rw [h3]
/-- What a block of the one is to a block of the other. -/
structure BRel (src : List Ins) (b : Blk) (c : Ctl) : Prop where
  res : b.res = resOf c.bt
  carry : b.carry = labelM c
  ht : b.height = c.height
  dd : b.dead = c.dead
  head : b.head = if c.op = 2 then (posOf src c.at_.toNat : Int) else -1
  alt : b.alt.isSome = true ↔ c.op = 3
/-- An open block: where the scan for its end stands. -/
structure Scan (src : List Ins) (i : Nat) (c : Ctl) (d : Nat) : Prop where
  at0 : 0 ≤ c.at_
  atl : c.at_ < i
  ops : c.op = 1 ∨ c.op = 2 ∨ c.op = 3 ∨ c.op = 4
  sc : ∃ els : Int, ends src c.at_.toNat = endsR (src.drop i) i els d ∧ (c.op ≠ 4 → els = -1) ∧ (c.op = 4 → 0 ≤ els)
def altT (src : List Ins) (c : Ctl) : Nat := posOf src (if 0 ≤ (ends src c.at_.toNat).1 then (ends src c.at_.toNat).1 + 1 else (ends src c.at_.toNat).2).toNat
structure KR (src : List Ins) (i : Nat) (o : List Int) (C : Chk) (K : Km) (code : List Flat) : Prop where
  st : K.st = C.st
  len : C.opn.length = K.cs.length
  ol : K.cs.length = o.length + 1
  bl : ∀ (j : Nat) (b : Blk) (c : Ctl), C.opn[j]? = some b → K.cs[j]? = some c → BRel src b c
  scn : ∀ (j : Nat) (c : Ctl), K.cs[j]? = some c → 0 < j → Scan src i c (K.cs.length - 1 - j) ∧ o[j - 1]? = some c.op
  bot : ∀ c, K.cs[0]? = some c → c.op = 1 ∧ c.at_ = -1
  cl : C.code.length = posOf src i
  ml : code.length = posOf src i
  cd : ∀ (a : Nat) (x y : Flat), C.code[a]? = some x → code[a]? = some y → x.op = y.op ∧ x.keep = y.keep ∧ x.cut = y.cut ∧ ((∀ b, b ∈ C.opn → a ∉ b.wait ∧ b.alt ≠ some a) → x.imm = y.imm)
  wt : ∀ (j : Nat) (b : Blk) (c : Ctl) (a : Nat), C.opn[j]? = some b → K.cs[j]? = some c → a ∈ b.wait → c.op ≠ 2 ∧ ∃ y, code[a]? = some y ∧ y.imm = (posOf src (endM src c).toNat : Nat)
  al : ∀ (j : Nat) (b : Blk) (c : Ctl) (a : Nat), C.opn[j]? = some b → K.cs[j]? = some c → b.alt = some a → ∃ y, code[a]? = some y ∧ y.imm = (altT src c : Nat)
  dis : ∀ (i j : Nat) (b b' : Blk) (a : Nat), C.opn[i]? = some b → C.opn[j]? = some b' → (a ∈ b.wait ∨ b.alt = some a) → (a ∈ b'.wait ∨ b'.alt = some a) → i = j
  pl : ∀ b, b ∈ C.opn → ∀ a, (a ∈ b.wait ∨ b.alt = some a) → a < C.code.length
variable {src : List Ins} {i : Nat} {o : List Int} {C : Chk} {K : Km} {code : List Flat}
theorem KR.pos (h : KR src i o C K code) : 0 < C.opn.length := by have := h.len; have := h.ol; omega
theorem KR.tops (h : KR src i o C K code) : C.opn[C.opn.length - 1]? = some C.top ∧ K.cs[K.cs.length - 1]? = some K.top := by
  have hp := h.pos
  have hl := h.len
  constructor
  · rw [List.getElem?_eq_getElem (by omega), top_eq hp]
  · rw [List.getElem?_eq_getElem (by omega), topM_eq (by omega)]
theorem KR.top (h : KR src i o C K code) : BRel src C.top K.top := by
  have ht := h.tops
  refine h.bl (C.opn.length - 1) _ _ ht.1 ?_
  rw [h.len]; exact ht.2
theorem KR.syn (h : KR src i o C K code) : Syn C K := ⟨h.st, h.top.ht.symm, h.top.dd.symm⟩
theorem KR.labs (h : KR src i o C K code) {l : Nat} (hl : l < C.opn.length) : BRel src (C.opn.getD (C.opn.length - 1 - l) Blk.nil) (K.lab l) := by
  have hln := h.len
  refine h.bl (C.opn.length - 1 - l) _ _ ?_ ?_
  · rw [List.getD_eq_getElem?_getD, List.getElem?_eq_getElem (by omega)]; rfl
  · rw [hln, labM_eq (by omega), List.getElem?_eq_getElem (by omega)]
/-- Nothing but the operands has changed, and the code has grown by what is no jump. -/
theorem KR.grow (h : KR src i o C K code) (hi : i < src.length) {C' : Chk} {K' : Km} (e1 : C'.opn = C.opn) (e2 : K'.cs = K.cs) (e3 : K'.st = C'.st) {f : Flat} (e4 : C'.code = C.code ++ [f]) (hz : szOf src[i] = 1) (hn : ¬ (1 ≤ src[i].op ∧ src[i].op ≤ 5)) : KR src (i + 1) o C' K' (code ++ [f]) where
  st := e3
  len := by rw [e1, e2]; exact h.len
  ol := by rw [e2]; exact h.ol
  bl := by rw [e1, e2]; exact h.bl
  scn := by
    rw [e2]
    intro j c hc hj
    obtain ⟨⟨h1, h2, h3, els, h4, h5⟩, h6⟩ := h.scn j c hc hj
    exact ⟨⟨h1, by omega, h3, els, by rw [h4, endsR_step hi hn], h5⟩, h6⟩
  bot := by rw [e2]; exact h.bot
  cl := by rw [e4, List.length_append, h.cl, posOf_succ hi, hz]; rfl
  ml := by rw [List.length_append, h.ml, posOf_succ hi, hz]; rfl
  cd := by
    intro a x y hx hy
    rw [e4] at hx
    rw [e1]
    by_cases ha : a < C.code.length
    · rw [List.getElem?_append_left ha] at hx
      rw [List.getElem?_append_left (by rw [h.ml, ← h.cl]; exact ha)] at hy
      exact h.cd a x y hx hy
    · rw [List.getElem?_append_right (by omega)] at hx
      rw [List.getElem?_append_right (by rw [h.ml, ← h.cl]; omega), h.ml, ← h.cl] at hy
      rw [hx] at hy
      simp only [Option.some.injEq] at hy
      subst hy
      exact ⟨rfl, rfl, rfl, fun _ => rfl⟩
  wt := by
    rw [e1, e2]
    intro j b c a hb hc ha
    obtain ⟨h0, y, h1, h2⟩ := h.wt j b c a hb hc ha
    exact ⟨h0, y, by rw [List.getElem?_append_left (List.getElem?_eq_some_iff.1 h1).1]; exact h1, h2⟩
  al := by
    rw [e1, e2]
    intro j b c a hb hc ha
    obtain ⟨y, h1, h2⟩ := h.al j b c a hb hc ha
    exact ⟨y, by rw [List.getElem?_append_left (List.getElem?_eq_some_iff.1 h1).1]; exact h1, h2⟩
  dis := by rw [e1]; exact h.dis
  pl := by
    rw [e1, e4]
    intro b hb a ha
    have := h.pl b hb a ha
    rw [List.length_append]; omega
end Go.Wl
