/- The two validators: all that is no control. -/
import Derived.Test.Qxb6500572aGreatDoorNB
import Derived.Test.Qxb6500572aGreatDoorWPmH
namespace Go.Wl
open Go Go.Sl
set_option linter.unusedVariables false
variable {src : List Ins} {i : Nat} {o : List Int} {C C' : Chk} {K K' : Km} {code : List Flat} {fs : List Fun} {fsM : List Fm} {u : Fun} {uM : Fm} {c : Ins}
structure Agree (C : Chk) (K : Km) (r : Chk × Int) (q : Km × Int) : Prop where
  e : q.2 = r.2
  cd : r.1.code = C.code
  st : q.1.st = r.1.st
  bl : (r.1.opn = C.opn ∧ q.1.cs = K.cs) ∨ (r.1.opn = C.opn.set (C.opn.length - 1) { C.top with dead := true } ∧ q.1.cs = K.cs.set (K.cs.length - 1) { K.top with dead := true })
theorem agree_swap (h : Syn C K) (a b : List UInt8) : Agree C K (swap C a b) ((swapM K a b).1, typedM (swapM K a b).2) := by
  obtain ⟨h1, h2, h3⟩ := syn_swap h a b
  refine ⟨?_, ?_, ?_, .inl ⟨?_, ?_⟩⟩
  · rw [h1]; exact typed_dec h2
  · rw [h3]
  · rw [h1]
  · rw [h3]
  · rw [h1]
theorem agree_pops (h : Syn C K) (a : List UInt8) : Agree C K (pops C a) ((popsM K a).1, typedM (popsM K a).2) := by
  obtain ⟨h1, h2, h3⟩ := syn_pops h a
  refine ⟨?_, ?_, ?_, .inl ⟨?_, ?_⟩⟩
  · rw [h1]; exact typed_dec h2
  · rw [h3]
  · rw [h1]
  · rw [h3]
  · rw [h1]
theorem agree_leaves (h : Syn C K) (a : List UInt8) : Agree C K (leaves C a) (deadM (popsM K a).1, typedM (popsM K a).2) := by
  obtain ⟨h1, h2, h3⟩ := syn_pops h a
  have ht : (pops C a).1.top = C.top := by unfold Chk.top; rw [h3]
  have hk : (popsM K a).1.top = K.top := by unfold Km.top; rw [h1]
  refine ⟨?_, ?_, ?_, .inr ⟨?_, ?_⟩⟩
  · show typedM (popsM K a).2 = (pops C a).2; rw [h1]; exact typed_dec h2
  · show (pops C a).1.code = C.code; rw [h3]
  · show (popsM K a).1.st.take (popsM K a).1.top.height = (pops C a).1.st.take (pops C a).1.top.height
    rw [ht, hk, h.ht, h1]
  · show (pops C a).1.opn.set ((pops C a).1.opn.length - 1) { (pops C a).1.top with dead := true } = _
    rw [ht, h3]
  · show (popsM K a).1.cs.set ((popsM K a).1.cs.length - 1) { (popsM K a).1.top with dead := true } = _
    rw [hk, h1]
structure FRel (fs : List Fun) (fsM : List Fm) : Prop where
  len : fsM.length = fs.length
  at_ : ∀ (g : Nat) (f : Fun) (m : Fm), fs[g]? = some f → fsM[g]? = some m → m.params = f.params ∧ m.results = f.results
structure URel (u : Fun) (uM : Fm) : Prop where
  p : uM.params = u.params
  r : uM.results = u.results
  l : uM.locals = u.locals
theorem sigs_sigM {op : Int} (h : (15 ≤ op ∧ op ≤ 33) ∨ (40 ≤ op ∧ op < 56) ∨ (60 ≤ op ∧ op < 76)) : sigs op = some ((sigM op).1, (sigM op).2.1) := by
  unfold sigs sigM
  by_cases h1 : op = 15 ∨ op = 17
  · rw [if_pos h1, if_pos h1]
  rw [if_neg h1, if_neg h1]
  by_cases h2 : op = 18
  · rw [if_pos h2, if_pos h2]
  rw [if_neg h2, if_neg h2]
  by_cases h3 : op = 16 ∨ op = 29 ∨ op = 19 ∨ op = 21 ∨ op = 22 ∨ op = 23 ∨ op = 24
  · rw [if_pos h3, if_pos (show op = 16 ∨ op = 19 ∨ op = 21 ∨ op = 22 ∨ op = 23 ∨ op = 24 ∨ op = 29 by omega)]
  rw [if_neg h3, if_neg (show ¬ (op = 16 ∨ op = 19 ∨ op = 21 ∨ op = 22 ∨ op = 23 ∨ op = 24 ∨ op = 29) by omega)]
  by_cases h4 : op = 20 ∨ op = 32 ∨ op = 33
  · rw [if_pos h4, if_pos h4]
  rw [if_neg h4, if_neg h4]
  by_cases h5 : op = 25 ∨ op = 27 ∨ op = 28
  · rw [if_pos h5, if_pos h5]
  rw [if_neg h5, if_neg h5]
  by_cases h6 : op = 26
  · rw [if_pos h6, if_pos h6]
  rw [if_neg h6, if_neg h6]
  by_cases h7 : op = 30 ∨ op = 31
  · rw [if_pos h7, if_pos h7]
  rw [if_neg h7, if_neg h7]
  by_cases h8 : 40 ≤ op ∧ op < 56
  · rw [if_pos h8, if_pos h8]
  rw [if_neg h8, if_neg h8, if_pos (show 60 ≤ op ∧ op < 76 by omega)]
  by_cases h9 : op - 60 = 13 ∨ op - 60 = 14 ∨ op - 60 = 15
  · rw [if_pos h9, if_neg (show ¬ (60 ≤ op ∧ op < 73) by omega)]
  · rw [if_neg h9, if_pos (show 60 ≤ op ∧ op < 73 by omega)]
/-- What the real one makes of an instruction that is no control. -/
def restI (fs : List Fun) (u : Fun) (C : Chk) (c : Ins) : Chk × Int := match special fs u C c with
  | some r => r
  | none => match sigs c.op with
    | some (i, o) => swap C i o
    | none => (C, 3)
theorem agree_rest (h : Syn C K) (hF : FRel fs fsM) (hU : URel u uM) (hw : well c = true) (hno : ¬ (1 ≤ c.op ∧ c.op ≤ 8)) : Agree C K (restI fs u C c) (plainM fsM uM K c) := by
  have hwg := well_ge hw
  unfold restI special plainM
  rcases well_ops hw with o1 | o1 | o1 | o1 | o1 | o1 | o1 | o1 | o1 | o1 | o1 | o1 | o1 | o1 | o1 | o1
  · rw [if_pos o1, if_pos o1]
    exact agree_leaves h []
  · omega
  · omega
  · omega
  · omega
  · omega
  · omega
  · omega
  · omega
  · rw [if_neg (by omega), if_pos o1, if_neg (by omega), if_pos o1]
    dsimp only
    rw [hU.r]
    exact agree_leaves h u.results
  · rw [if_neg (by omega), if_neg (by omega), if_neg (by omega), if_pos o1, if_neg (by omega), if_neg (by omega), if_pos o1]
    dsimp only
    have hi := hwg.1 (by omega)
    unfold callI
    rw [hF.len]
    by_cases hl : (fs.length : Int) ≤ c.imm
    · rw [if_pos hl, if_pos hl]
      exact ⟨rfl, rfl, h.st, .inl ⟨rfl, rfl⟩⟩
    · rw [if_neg hl, if_neg hl]
      have h1 : c.imm.toNat < fs.length := by omega
      have h2 : c.imm.toNat < fsM.length := by rw [hF.len]; exact h1
      obtain ⟨e1, e2⟩ := hF.at_ _ _ _ (List.getElem?_eq_getElem h1) (List.getElem?_eq_getElem h2)
      rw [List.getElem?_eq_getElem h1, List.getElem?_eq_getElem h2]
      dsimp only
      rw [e1, e2]
      exact agree_swap h _ _
  · rw [if_neg (by omega), if_neg (by omega), if_pos o1, if_neg (by omega), if_neg (by omega), if_neg (by omega), if_pos o1]
    dsimp only
    have hp := agree_pops h [0]
    have e : popsM K [0] = ((popM K 0).1, (popM K 0).2.2) := by
      show popsRM K [0] = _
      unfold popsRM
      cases hb : (popM K 0).2.2 <;> simp [popsRM]
    rw [e] at hp
    exact hp
  · rw [if_neg (by omega), if_neg (by omega), if_neg (by omega), if_neg (by omega), if_pos o1, if_neg (by omega), if_neg (by omega), if_neg (by omega), if_neg (by omega), if_pos o1]
    dsimp only
    unfold sel
    dsimp only
    obtain ⟨p1, p2, p3⟩ := syn_pops h [105]
    have s1 := h.pops [105]
    have a1 := syn_pop s1 0
    have s2 := s1.pop 0
    have a2 : (popM (popsM K [105]).1 0).2.1 = (pop (pops C [105]).1 0).2.1 := by rw [a1]
    have b1 := syn_pop s2 (pop (pops C [105]).1 0).2.1
    rw [a2, b1]
    have ho : (pop (pop (pops C [105]).1 0).1 (pop (pops C [105]).1 0).2.1).1.opn = C.opn ∧ (pop (pop (pops C [105]).1 0).1 (pop (pops C [105]).1 0).2.1).1.code = C.code := by
      rw [pop_C]
      show (pop (pops C [105]).1 0).1.opn = _ ∧ (pop (pops C [105]).1 0).1.code = _
      rw [pop_C]
      show (pops C [105]).1.opn = _ ∧ (pops C [105]).1.code = _
      rw [p3]; exact ⟨rfl, rfl⟩
    have hcs : (popM (popsM K [105]).1 0).1.cs = K.cs := by rw [a1]; show (popsM K [105]).1.cs = _; rw [p1]
    refine ⟨?_, ho.2, rfl, .inl ⟨ho.1, hcs⟩⟩
    dsimp only
    have e1 : (popsM K [105]).2 = decide ((pops C [105]).2 = 0) := by rw [p1]
    have e2 : (popM (popsM K [105]).1 0).2.2 = (pop (pops C [105]).1 0).2.2 := by rw [a1]
    rw [e1, e2]
    cases (pop (pops C [105]).1 0).2.2 <;> cases (pop (pop (pops C [105]).1 0).1 (pop (pops C [105]).1 0).2.1).2.2 <;> simp
    · rfl
    · rfl
    · rfl
    · exact typed_dec p2
  · rw [if_neg (by omega), if_neg (by omega), if_neg (by omega), if_neg (by omega), if_neg (by omega), if_pos (by omega), if_neg (by omega), if_neg (by omega), if_neg (by omega), if_neg (by omega), if_neg (by omega), if_pos (by omega)]
    dsimp only
    have hi := hwg.1 (by omega)
    unfold localI
    rw [hU.p, hU.l]
    by_cases hl : ((u.params ++ u.locals).length : Int) ≤ c.imm
    · rw [if_pos hl, if_pos hl]; exact ⟨rfl, rfl, h.st, .inl ⟨rfl, rfl⟩⟩
    · rw [if_neg hl, if_neg hl, if_neg (by omega), if_pos o1]
      have ht := Go.Sl.take1 (l := u.params ++ u.locals) (j := c.imm) (by omega) (by omega)
      rw [show (c.imm + 1).toNat = c.imm.toNat + 1 by omega] at ht
      rw [ht]
      refine ⟨rfl, rfl, ?_, .inl ⟨rfl, rfl⟩⟩
      show K.st ++ _ = C.st ++ _
      rw [h.st]
  · rw [if_neg (by omega), if_neg (by omega), if_neg (by omega), if_neg (by omega), if_neg (by omega), if_pos (by omega), if_neg (by omega), if_neg (by omega), if_neg (by omega), if_neg (by omega), if_neg (by omega), if_pos (by omega)]
    dsimp only
    have hi := hwg.1 (by omega)
    unfold localI
    rw [hU.p, hU.l]
    by_cases hl : ((u.params ++ u.locals).length : Int) ≤ c.imm
    · rw [if_pos hl, if_pos hl]; exact ⟨rfl, rfl, h.st, .inl ⟨rfl, rfl⟩⟩
    · rw [if_neg hl, if_neg hl, if_pos o1, if_neg (by omega)]
      have ht := Go.Sl.take1 (l := u.params ++ u.locals) (j := c.imm) (by omega) (by omega)
      rw [show (c.imm + 1).toNat = c.imm.toNat + 1 by omega] at ht
      rw [ht]
      exact agree_pops h _
  · rw [if_neg (by omega), if_neg (by omega), if_neg (by omega), if_neg (by omega), if_neg (by omega), if_neg (by omega), if_neg (by omega), if_neg (by omega), if_neg (by omega), if_neg (by omega), if_neg (by omega), if_neg (by omega)]
    dsimp only
    rw [sigs_sigM o1]
    exact agree_swap h _ _
theorem KR.other (h : KR src i o C K code) (hi : i < src.length) (hc : src[i] = c) (hF : FRel fs fsM) (hU : URel u uM) (hw : well c = true) (hno : ¬ (1 ≤ c.op ∧ c.op ≤ 8)) :
    (oneM fsM uM code K i c).2.2 = (one fs u C c).2 ∧ ((one fs u C c).2 = 0 → KR src (i + 1) o (one fs u C c).1 (oneM fsM uM code K i c).1 (oneM fsM uM code K i c).2.1) := by
  obtain ⟨a1, a2, a3, a4⟩ := agree_rest h.syn hF hU hw hno
  have eo : one fs u C c = (hole (restI fs u C c).1 ⟨c.op, c.imm, 0, 0⟩, (restI fs u C c).2) := by
    unfold one restI
    rw [if_neg (by omega), if_neg (by omega), if_neg (by omega), if_neg (by omega), if_neg (by omega)]
    rfl
  have em : oneM fsM uM code K i c = ((plainM fsM uM K c).1, if (plainM fsM uM K c).2 = 5 then code else code ++ [⟨c.op, c.imm, 0, 0⟩], (plainM fsM uM K c).2) := by
    unfold oneM
    rw [if_neg (by omega), if_neg (by omega), if_neg (by omega), if_neg (by omega), if_neg (by omega)]
  rw [eo, em]
  refine ⟨a1, fun h0 => ?_⟩
  dsimp only at h0 ⊢
  rw [if_neg (by rw [a1, h0]; decide)]
  have hz : szOf src[i] = 1 := by rw [hc]; unfold szOf; rw [if_neg (by omega), if_neg (by omega)]
  have hn : ¬ (1 ≤ src[i].op ∧ src[i].op ≤ 5) := by rw [hc]; omega
  rcases a4 with ⟨b1, b2⟩ | ⟨b1, b2⟩
  · exact h.plain hi hn hz b1 b2 a3 (by show _ ++ _ = _; rw [a2])
  · exact h.gone hi hn hz b1 b2 a3 (by show _ ++ _ = _; rw [a2])
end Go.Wl
