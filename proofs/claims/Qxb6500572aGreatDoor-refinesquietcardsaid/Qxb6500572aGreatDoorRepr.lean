/- How the plain data lie in memory. -/
import Derived.Test.Qxb6500572aGreatDoorSlK
import Derived.Test.Qxb6500572aGreatDoorPure
namespace Go.Wl
open Go Go.Sl

def insV (c : Ins) : List Value := [I c.op, I c.imm, S c.tab]
def codeV (l : List Ins) : List Value := l.flatMap insV
def Fns : List Fn → List Value → Seg → Prop
  | [], cs, s => cs = [] ∧ s = []
  | f :: fs, cs, s => ∃ a c sv cs' s', cs = [I f.typ, S f.locals, .slice a f.code.length c] ++ cs' ∧ s = sv ++ s' ∧ Arr 87 3 a f.code.length c (codeV f.code) sv ∧ Fns fs cs' s'
/-- A module at block b. -/
def isMod (b : Nat) (m : Mod) (s : Seg) : Prop :=
  ∃ pa pc ra rc ia ic fa fc sp sr si sf sc cs, s = List.flatten [blk b 76 [.slice pa m.params.length pc, .slice ra m.results.length rc, .slice ia m.imports.length ic, I m.min, I m.max, .slice fa m.funcs.length fc], sp, sr, si, sf, sc] ∧
    Arr 9 1 pa m.params.length pc (m.params.map S) sp ∧ Arr 9 1 ra m.results.length rc (m.results.map S) sr ∧
    Arr 3 1 ia m.imports.length ic (m.imports.map I) si ∧ Fns m.funcs cs sc ∧ Arr 129 3 fa m.funcs.length fc cs sf
theorem insV_len (c : Ins) : (insV c).length = 3 := rfl
theorem codeV_len (l : List Ins) : (codeV l).length = l.length * 3 := flat_len insV_len l
theorem Fns.get : ∀ {fs : List Fn} {cs : List Value} {s : Seg}, Fns fs cs s → ∀ {i : Nat} (hi : i < fs.length), ∃ a c s1 sv s2, s = List.flatten [s1, sv, s2] ∧ Arr 87 3 a fs[i].code.length c (codeV fs[i].code) sv ∧
    (cs.drop (i * 3)).take 3 = [I fs[i].typ, S fs[i].locals, .slice a fs[i].code.length c]
  | [], _, _, _, i, hi => by simp at hi
  | f :: fs, cs, s, h, i, hi => by
    obtain ⟨a, c, sv, cs', s', rfl, rfl, h1, h2⟩ := h
    cases i with
    | zero => exact ⟨a, c, [], sv, s', by simp, h1, rfl⟩
    | succ i =>
      obtain ⟨a', c', s1, sv', s2, rfl, h3, h4⟩ := Fns.get h2 (i := i) (by simpa using hi)
      refine ⟨a', c', sv ++ s1, sv', s2, by simp, h3, ?_⟩
      simp only [List.getElem_cons_succ]
      rw [← h4, show (i + 1) * 3 = i * 3 + 3 from by omega]
      simp
theorem Fns.len : ∀ {fs : List Fn} {cs : List Value} {s : Seg}, Fns fs cs s → cs.length = fs.length * 3
  | [], _, _, h => by rw [h.1]; rfl
  | f :: fs, cs, s, h => by
    obtain ⟨a, c, sv, cs', s', rfl, rfl, h1, h2⟩ := h
    have := Fns.len h2
    simp [this]; omega
theorem Fns.snoc : ∀ {fs : List Fn} {cs : List Value} {s : Seg}, Fns fs cs s → ∀ {f : Fn} {a : Option Addr} {c : Nat} {sv : Seg}, Arr 87 3 a f.code.length c (codeV f.code) sv →
    Fns (fs ++ [f]) (cs ++ [I f.typ, S f.locals, .slice a f.code.length c]) (s ++ sv)
  | [], _, _, h, f, a, c, sv, hA => by
    obtain ⟨rfl, rfl⟩ := h
    exact ⟨a, c, sv, [], [], by simp, by simp, hA, rfl, rfl⟩
  | g :: fs, cs, s, h, f, a, c, sv, hA => by
    obtain ⟨a', c', sv', cs', s', rfl, rfl, h1, h2⟩ := h
    exact ⟨a', c', sv', cs' ++ _, s' ++ sv, by simp, by simp, h1, Fns.snoc h2 hA⟩
end Go.Wl
