/- Plain: package compm: the whole run. -/
import Derived.Test.Qxb6500573aGreatDoorWCmJ
import Derived.Test.Qxb6500573aGreatDoorWZf
namespace Go.Nm
open Go Go.Sl Go.Wl Go.Zm Go.Proofs
set_option linter.unusedVariables false
/-- The tables with the first k builtins set. -/
def biL : Nat → List Row
  | 0 => [[]]
  | k + 1 => (setW (biL k) 0 ⟨3, 0, builtinName ((k : Int) + 1)⟩ ⟨6, (k : Int) + 1, []⟩).1
theorem setR_len (l : Row) (k v : V) : (setR l k v).1.length ≤ l.length + 1 := by
  unfold setR
  split
  · simp
  · split
    · simp
    · split <;> simp
theorem setW_len (ts : List Row) (j : Nat) (k v : V) : (setW ts j k v).1.length = ts.length := by
  unfold setW
  split
  · rfl
  · split
    · rfl
    · split
      · rfl
      · simp
theorem setW_row {ts : List Row} {k v : V} {n : Nat} (h1 : ts.length = 1) (h2 : ∀ h : 0 < ts.length, ts[0].length ≤ n) : ∀ h : 0 < (setW ts 0 k v).1.length, (setW ts 0 k v).1[0].length ≤ n + 1 := by
  obtain ⟨l, rfl⟩ : ∃ l, ts = [l] := by
    match ts, h1 with
    | [l], _ => exact ⟨l, rfl⟩
  have h3 : l.length ≤ n := h2 (by simp)
  have h4 := setR_len l k v
  unfold setW
  intro h
  have key : ∀ (c : Bool) (x : List Row × Int), x.1 = [l] ∨ x.1 = [(setR l k v).1] → ∀ h : 0 < x.1.length, x.1[0].length ≤ n + 1 := by
    intro c x hx h
    rcases hx with e | e
    · simp only [e, List.getElem_cons_zero]; omega
    · simp only [e, List.getElem_cons_zero]; omega
  refine key true _ ?_ h
  split
  · exact .inl rfl
  · split
    · exact .inl rfl
    · split
      · exact .inl rfl
      · exact .inr rfl
theorem biL_ok : ∀ k, (biL k).length = 1 ∧ ∀ h : 0 < (biL k).length, (biL k)[0].length ≤ k
  | 0 => ⟨rfl, fun _ => Nat.le_refl _⟩
  | k + 1 => ⟨by rw [biL, setW_len]; exact (biL_ok k).1, setW_row (biL_ok k).1 (biL_ok k).2⟩
/-- The state at the start. -/
def rn0 (ns : List Nd) (root fuel : Int) : RnM := ⟨ns, root, [(0, none)], [⟨4, 0, 0, [], []⟩], [0, 0, 0, 0, 0], 0, 0, if 0 < fuel then fuel else 0, 0, [], false, ⟨0, 0, 0, [], []⟩, [], biL 11⟩
def rloop : Nat → RnM → Option RnM
  | 0, _ => none
  | n + 1, m => bif m.done then some m else bind1 (rstep m) (rloop n)
def runZ (n : Nat) (src : List UInt8) (fuel : Int) : Option Ans := bind1 (parseZ src n) fun r => match r.1 with
  | none => if r.2.1 ≠ 0 then some ⟨r.2.1, r.2.2, 0, [], []⟩ else none
  | some q => if r.2.1 ≠ 0 then none else bind1 (renter 0 [] 0 (rn0 q.1 q.2 fuel)) fun m => bind1 (rloop n m) fun m' => some m'.ans
/-- The model at rest. -/
def isCm (cb : Nat) (s : Seg) : Prop := ∃ nb tb sb ts sT, s = List.flatten [blk cb 85 [ptr nb, ptr tb, ptr sb], blk sb 136 [ptr nb], sT] ∧ isTm tb nb ts sT
theorem seg_cells {s t : Seg} {b o : Nat} {vs : List Value} {H2 : Hp} (h : Cells [s] b o vs) (hs : ∀ p, p ∈ s → p ∈ t) : Cells (t :: H2) b o vs := by
  obtain ⟨c, T, fz, h1, h2⟩ := h
  refine ⟨c, T, fz, List.mem_flatten.2 ⟨t, List.mem_cons_self, hs _ ?_⟩, h2⟩
  obtain ⟨l, hl, hp⟩ := List.mem_flatten.1 h1
  rw [List.mem_singleton] at hl
  subst hl
  exact hp
theorem isRm_ts {x : RX} {eb hb : List Nat} {m : RnM} {s : Seg} (h : isRm x eb hb m s) : ∃ r5 sA sB, s = List.flatten [blk x.b 142 r5, sA, sB] ∧ isTm x.tb x.nb m.ts sB ∧ ∀ H : Hp, Cells (blk x.b 142 r5 :: H) x.b (0 + 17) (ansV m.ans) := by
  obtain ⟨ca, cc, ha, hc, sN, sC, sH, sT, sB, rfl, _, _, _, _, hT, hS⟩ := h
  obtain ⟨s0, s1, s2, s3, s4, hs⟩ := five hS.st
  refine ⟨rnV x ca ha cc hc m, List.flatten [sN, sC, sH, sT, evS eb eb m.envs], sB, by simp, hT, fun H => ?_⟩
  unfold rnV
  rw [hs]
  exact Cells.head rfl
theorem rm_done {x : RX} {eb hb : List Nat} {m : RnM} {s : Seg} (h : isRm x eb hb m s) {d : Bool} (hd : m.done = d) {H : Hp} : Cell (s :: H) x.b (0 + 16) (.bool d) := by
  rw [← hd]; exact h.cDone H
end Go.Nm
