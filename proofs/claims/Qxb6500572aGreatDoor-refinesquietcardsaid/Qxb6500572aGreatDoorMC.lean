/- The model's program: loading, plain; and as it lies in the heap. -/
import Derived.Test.Qxb6500572aGreatDoorWPmG
namespace Go.Wl
open Go Go.Sl
set_option linter.unusedVariables false
def funAtM (m : Mod) (f : Nat) : Fm := ⟨(m.type (tyAt m f)).1, (m.type (tyAt m f)).2, if f < m.imports.length then [] else (m.func ((f : Int) - m.imports.length)).2.1, if f < m.imports.length then [] else codeOf m f, []⟩
def readsM (m : Mod) : Nat → List Fm → Nat → List Fm × Option Nat
  | 0, acc, _ => (acc, none)
  | n + 1, acc, f => if (m.params.length : Int) ≤ tyAt m f then (acc, some f) else readsM m n (acc ++ [funAtM m f]) (f + 1)
def bodiesM : Nat → List Fm → Nat → List Fm × Nat × Nat × Int
  | 0, fs, _ => (fs, 0, 0, 0)
  | n + 1, fs, f => match fs[f]? with
    | some u => if (runOneM fs u u.src (Km.start u) [] 0).2.2.2 ≠ 0 then (fs, f, (runOneM fs u u.src (Km.start u) [] 0).2.2.1, (runOneM fs u u.src (Km.start u) [] 0).2.2.2)
      else bodiesM n (fs.set f { u with code := (runOneM fs u u.src (Km.start u) [] 0).2.1 }) (f + 1)
    | none => (fs, 0, 0, 0)
/-- The program, where the loading faulted: function, instruction, error. -/
def loadMM (m : Mod) : Pm × Int × Int × Int :=
  let r := readsM m (m.imports.length + m.funcs.length) [] 0
  match r.2 with
  | some f => (⟨m.imports.length, m.min, m.max, r.1⟩, f, -1, 5)
  | none =>
    let b := bodiesM m.funcs.length r.1 m.imports.length
    (⟨m.imports.length, m.min, m.max, b.1⟩, b.2.1, b.2.2.1, b.2.2.2)
/-- What each step of a function's checking asks. -/
structure StepOk (u : Fm) (K : Km) (code : List Flat) (c : Ins) : Prop where
  kb : KB K
  lab : LabOk K u.src
  els : c.op = 4 → 0 ≤ K.top.at_
  wl : well c = true
  cl : code.length ≤ 100000
def RunOk (fs : List Fm) (u : Fm) : List Ins → Km → List Flat → Nat → Prop
  | [], _, _, _ => True
  | c :: cs, K, code, i => StepOk u K code c ∧ ((oneM fs u code K i c).2.2 = 0 → RunOk fs u cs (oneM fs u code K i c).1 (oneM fs u code K i c).2.1 (i + 1))
def FunsM : List Fm → List Value → Seg → Prop
  | [], cs, s => cs = [] ∧ s = []
  | f :: l, cs, s => ∃ sa sc ca cc cs' sv cd s', cs = rowM f sa sc ca f.code.length cc ++ cs' ∧ s = List.flatten [sv, cd, s'] ∧ Arr 87 3 sa f.src.length sc (codeV f.src) sv ∧ Arr 181 4 ca f.code.length cc (f.code.flatMap flatV) cd ∧ FunsM l cs' s'
def isPm (pb : Nat) (fa : Option Addr) (P : Pm) (steps : Int) (s : Seg) : Prop :=
  ∃ fc sf sc cs, s = List.flatten [blk pb 159 [I P.nimp, I P.min, I P.max, I steps, .slice fa P.funs.length fc], sf, sc] ∧ Arr 164 5 fa P.funs.length fc cs sf ∧ FunsM P.funs cs sc
theorem rowM_len (f : Fm) (sa : Option Addr) (sc : Nat) (ca : Option Addr) (n cc : Nat) : (rowM f sa sc ca n cc).length = 5 := rfl
theorem FunsM.len : ∀ {l : List Fm} {cs : List Value} {s : Seg}, FunsM l cs s → cs.length = l.length * 5
  | [], _, _, h => by rw [h.1]; rfl
  | f :: l, _, _, h => by
    obtain ⟨sa, sc, ca, cc, cs', sv, cd, s', rfl, rfl, _, _, h⟩ := h
    have := FunsM.len h
    rw [List.length_append, rowM_len, this, List.length_cons]; omega
theorem FunsM.get : ∀ {l : List Fm} {cs : List Value} {s : Seg}, FunsM l cs s → ∀ {i : Nat} (hi : i < l.length),
    ∃ la sa sc ca cc lb s1 sv cd s2, cs = la ++ rowM l[i] sa sc ca l[i].code.length cc ++ lb ∧ la.length = i * 5 ∧ s = List.flatten [s1, sv, cd, s2] ∧ Arr 87 3 sa l[i].src.length sc (codeV l[i].src) sv ∧ Arr 181 4 ca l[i].code.length cc (l[i].code.flatMap flatV) cd ∧
      ∀ (code : List Flat) (ca' : Option Addr) (cc' : Nat) (cd' : Seg), Arr 181 4 ca' code.length cc' (code.flatMap flatV) cd' →
        FunsM (l.set i { l[i] with code := code }) (la ++ rowM l[i] sa sc ca' code.length cc' ++ lb) (List.flatten [s1, sv, cd', s2])
  | [], _, _, _, i, hi => by simp at hi
  | f :: l, cs, s, h, i, hi => by
    obtain ⟨sa, sc, ca, cc, cs', sv, cd, s', rfl, rfl, h1, h2, h⟩ := h
    cases i with
    | zero => exact ⟨[], sa, sc, ca, cc, cs', [], sv, cd, s', by simp, by simp, by simp, h1, h2, fun code ca' cc' cd' hc => ⟨sa, sc, ca', cc', cs', sv, cd', s', by simp [rowM], by simp, h1, hc, h⟩⟩
    | succ i =>
      obtain ⟨la, sa1, sc1, ca1, cc1, lb, s1, sv1, cd1, s2, rfl, hla, rfl, h3, h4, hp⟩ := h.get (i := i) (by simpa using hi)
      refine ⟨rowM f sa sc ca f.code.length cc ++ la, sa1, sc1, ca1, cc1, lb, List.flatten [sv, cd, s1], sv1, cd1, s2, by simp, by rw [List.length_append, rowM_len]; omega, by simp, h3, h4, fun code ca' cc' cd' hc => ?_⟩
      exact ⟨sa, sc, ca, cc, _, sv, cd, _, by simp, by simp, h1, h2, hp code ca' cc' cd' hc⟩
theorem FunsM.snoc : ∀ {l : List Fm} {cs : List Value} {s : Seg}, FunsM l cs s → ∀ {f : Fm} {sa ca : Option Addr} {sc cc : Nat} {sv cd : Seg}, Arr 87 3 sa f.src.length sc (codeV f.src) sv → Arr 181 4 ca f.code.length cc (f.code.flatMap flatV) cd →
    FunsM (l ++ [f]) (cs ++ rowM f sa sc ca f.code.length cc) (List.flatten [s, sv, cd])
  | [], _, _, h, f, sa, ca, sc, cc, sv, cd, h1, h2 => by obtain ⟨rfl, rfl⟩ := h; exact ⟨sa, sc, ca, cc, [], sv, cd, [], by simp, by simp, h1, h2, rfl, rfl⟩
  | g :: l, _, _, h, f, sa, ca, sc, cc, sv, cd, h1, h2 => by
    obtain ⟨sa0, sc0, ca0, cc0, cs', sv0, cd0, s', rfl, rfl, h3, h4, h⟩ := h
    exact ⟨sa0, sc0, ca0, cc0, _, sv0, cd0, _, by simp, by simp, h3, h4, h.snoc h1 h2⟩
theorem FunsM.sig : ∀ {l : List Fm} {cs : List Value} {s : Seg}, FunsM l cs s → ∀ {g : Nat} {f : Fm}, l[g]? = some f → cs[g * 5]? = some (S f.params) ∧ cs[g * 5 + 1]? = some (S f.results) ∧ cs[g * 5 + 2]? = some (S f.locals)
  | [], _, _, _, g, f, hg => by simp at hg
  | f0 :: l, _, _, h, g, f, hg => by
    obtain ⟨sa, sc, ca, cc, cs', sv, cd, s', rfl, rfl, _, _, h⟩ := h
    cases g with
    | zero => simp at hg; subst hg; exact ⟨rfl, rfl, rfl⟩
    | succ g =>
      have h1 := h.sig (g := g) (by simpa using hg)
      have e : ∀ q, (rowM f0 sa sc ca f0.code.length cc ++ cs')[(g + 1) * 5 + q]? = cs'[g * 5 + q]? := fun q => by
        rw [List.getElem?_append_right (by rw [rowM_len]; omega), rowM_len]; congr 1; omega
      exact ⟨(e 0).trans h1.1, (e 1).trans h1.2.1, (e 2).trans h1.2.2⟩
def Pm.sig (P : Pm) (f : Int) : List UInt8 × List UInt8 × List UInt8 × Bool := if f < 0 ∨ P.funs.length ≤ f then ([], [], [], false) else match P.funs[f.toNat]? with
  | some u => (u.params, u.results, u.locals, true)
  | none => ([], [], [], false)
end Go.Wl
