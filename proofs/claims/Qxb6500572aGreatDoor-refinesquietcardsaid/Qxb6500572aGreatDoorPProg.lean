/- The flat program, as it lies in the heap; facts on jumps. -/
import Derived.Test.Qxb6500572aGreatDoorPPrep
namespace Go.Wl
open Go Go.Sl
set_option linter.unusedVariables false
set_option linter.unusedSimpArgs false

def Funs : List Fun → List Value → Seg → Prop
  | [], cs, s => cs = [] ∧ s = []
  | f :: l, cs, s => ∃ a c cs' sv s', cs = [S f.params, S f.results, S f.locals, .slice a f.code.length c] ++ cs' ∧ s = List.flatten [sv, s'] ∧ Arr 181 4 a f.code.length c (f.code.flatMap flatV) sv ∧ Funs l cs' s'
def isProg (pb : Nat) (fa : Option Addr) (P : Prog) (steps : Int) (s : Seg) : Prop :=
  ∃ fc sf sc cs, s = List.flatten [blk pb 96 [I P.nimp, I P.min, I P.max, I steps, .slice fa P.funs.length fc], sf, sc] ∧ Arr 108 4 fa P.funs.length fc cs sf ∧ Funs P.funs cs sc
theorem Funs.len : ∀ {l : List Fun} {cs : List Value} {s : Seg}, Funs l cs s → cs.length = l.length * 4
  | [], _, _, h => by rw [h.1]; rfl
  | f :: l, _, _, h => by
    obtain ⟨a, c, cs', sv, s', rfl, rfl, _, h⟩ := h
    have := Funs.len h; simp; omega
theorem Funs.get : ∀ {l : List Fun} {cs : List Value} {s : Seg}, Funs l cs s → ∀ {i : Nat} (hi : i < l.length),
    ∃ ca a c cb s1 sv s2, cs = ca ++ [S l[i].params, S l[i].results, S l[i].locals, .slice a l[i].code.length c] ++ cb ∧ ca.length = i * 4 ∧ s = List.flatten [s1, sv, s2] ∧ Arr 181 4 a l[i].code.length c (l[i].code.flatMap flatV) sv ∧
      ∀ (code : List Flat) (a' : Option Addr) (c' : Nat) (sv' : Seg), Arr 181 4 a' code.length c' (code.flatMap flatV) sv' →
        Funs (l.set i { l[i] with code := code }) (ca ++ [S l[i].params, S l[i].results, S l[i].locals, .slice a' code.length c'] ++ cb) (List.flatten [s1, sv', s2])
  | [], _, _, _, i, hi => by simp at hi
  | f :: l, cs, s, h, i, hi => by
    obtain ⟨a, c, cs', sv, s', rfl, rfl, ha, h⟩ := h
    cases i with
    | zero => exact ⟨[], a, c, cs', [], sv, s', by simp, by simp, by simp, ha, fun code a' c' sv' ha' => ⟨a', c', cs', sv', s', by simp, by simp, ha', h⟩⟩
    | succ i =>
      obtain ⟨ca, a1, c1, cb, s1, dv, s2, rfl, hca, rfl, hd, hp⟩ := h.get (i := i) (by simpa using hi)
      refine ⟨[S f.params, S f.results, S f.locals, .slice a f.code.length c] ++ ca, a1, c1, cb, sv ++ s1, dv, s2, by simp, by simp; omega, by simp, hd, fun code a' c' sv' ha' => ?_⟩
      exact ⟨a, c, _, sv, _, by simp, by simp, ha, hp code a' c' sv' ha'⟩
theorem Funs.snoc : ∀ {l : List Fun} {cs : List Value} {s : Seg}, Funs l cs s → ∀ {f : Fun} {a : Option Addr} {c : Nat} {sv : Seg}, Arr 181 4 a f.code.length c (f.code.flatMap flatV) sv →
    Funs (l ++ [f]) (cs ++ [S f.params, S f.results, S f.locals, .slice a f.code.length c]) (List.flatten [s, sv])
  | [], _, _, h, f, a, c, sv, ha => by obtain ⟨rfl, rfl⟩ := h; exact ⟨a, c, [], sv, [], by simp, by simp, ha, rfl, rfl⟩
  | g :: l, _, _, h, f, a, c, sv, ha => by
    obtain ⟨a0, c0, cs', s0, s', rfl, rfl, h0, h⟩ := h
    exact ⟨a0, c0, _, s0, _, by simp, by simp, h0, h.snoc ha⟩

/-! Jumps change nothing of the blocks but what waits. -/
def Blk.strip (b : Blk) : Blk := { b with wait := [] }
theorem set_strip {l : List Blk} {i : Nat} {b : Blk} (h : (l.getD i Blk.nil).strip = b.strip) : (l.set i b).map Blk.strip = l.map Blk.strip := by
  apply List.ext_getElem
  · simp
  · intro j h1 h2
    simp only [List.length_map, List.length_set] at h1 h2
    simp only [List.getElem_map, List.getElem_set]
    split
    · rename_i e; subst e
      rw [← h, List.getD_eq_getElem?_getD, List.getElem?_eq_getElem h2]; rfl
    · rfl
theorem jump_st (C : Chk) (op : Int) (l : Nat) : (jump C op l).1.st = C.st := by unfold jump; dsimp only; split <;> rfl
theorem jump_code (C : Chk) (op : Int) (l : Nat) : (jump C op l).1.code.length = C.code.length + 1 := by unfold jump; dsimp only; split <;> simp [hole]
theorem jump_strip (C : Chk) (op : Int) (l : Nat) : (jump C op l).1.opn.map Blk.strip = C.opn.map Blk.strip := by
  unfold jump; dsimp only; split
  · exact set_strip rfl
  · rfl
theorem strip_len {a b : List Blk} (h : a.map Blk.strip = b.map Blk.strip) : a.length = b.length := by simpa using congrArg List.length h
theorem strip_getD {a b : List Blk} (h : a.map Blk.strip = b.map Blk.strip) (i : Nat) : (a.getD i Blk.nil).strip = (b.getD i Blk.nil).strip := by
  have := congrArg (fun l => (l[i]?).getD Blk.nil) h
  simp only [List.getElem?_map] at this
  rw [List.getD_eq_getElem?_getD, List.getD_eq_getElem?_getD]
  cases ha : a[i]? <;> cases hb : b[i]? <;> simp [ha, hb] at this ⊢
  · have hl := strip_len h
    rw [List.getElem?_eq_none_iff] at ha
    have := (List.getElem?_eq_some_iff.1 hb).1
    omega
  · have hl := strip_len h
    rw [List.getElem?_eq_none_iff] at hb
    have := (List.getElem?_eq_some_iff.1 ha).1
    omega
  · exact this
theorem strip_top {C C' : Chk} (h : C'.opn.map Blk.strip = C.opn.map Blk.strip) : C'.top.strip = C.top.strip := by
  unfold Chk.top; rw [strip_len h]; exact strip_getD h _
theorem strip_fields {a b : Blk} (h : a.strip = b.strip) : a.res = b.res ∧ a.carry = b.carry ∧ a.height = b.height ∧ a.head = b.head ∧ a.dead = b.dead ∧ a.alt = b.alt := by
  cases a; cases b; simp [Blk.strip] at h ⊢; exact h
theorem jump_waits {C : Chk} {op : Int} {l n : Nat} (h : ∀ b, b ∈ C.opn → b.wait.length ≤ n) : ∀ b, b ∈ (jump C op l).1.opn → b.wait.length ≤ n + 1 := by
  intro b hb
  unfold jump at hb; dsimp only at hb; split at hb
  · rcases List.mem_or_eq_of_mem_set hb with h1 | h1
    · have := h b h1; omega
    · subst h1
      simp only [List.length_append, List.length_cons, List.length_nil]
      by_cases hi : C.opn.length - 1 - l < C.opn.length
      · have := h (C.opn.getD (C.opn.length - 1 - l) Blk.nil) (by rw [List.getD_eq_getElem?_getD, List.getElem?_eq_getElem hi]; exact List.getElem_mem _)
        omega
      · rw [List.getD_eq_getElem?_getD, List.getElem?_eq_none (by omega)]; simp [Blk.nil]
  · have := h b hb; omega
def Prog.sig (P : Prog) (f : Int) : List UInt8 × List UInt8 × List UInt8 × Bool := if f < 0 ∨ P.funs.length ≤ f then ([], [], [], false) else match P.funs[f.toNat]? with
  | some u => (u.params, u.results, u.locals, true)
  | none => ([], [], [], false)
def Flat.none : Flat := ⟨-1, 0, 0, 0⟩
def Prog.at (P : Prog) (f pc : Int) : Flat := if f < 0 ∨ P.funs.length ≤ f then Flat.none else match P.funs[f.toNat]? with
  | some u => if pc < 0 ∨ u.code.length ≤ pc then Flat.none else u.code.getD pc.toNat Flat.none
  | none => Flat.none
end Go.Wl
