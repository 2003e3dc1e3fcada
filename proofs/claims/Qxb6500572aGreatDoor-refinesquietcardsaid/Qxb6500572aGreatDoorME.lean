/- The model's run: what the walks of the recursion carry. -/
import Derived.Test.Qxb6500572aGreatDoorWRmF
namespace Go.Sl
open Go Go.Wl Go.Proofs
set_option linter.unusedVariables false
def SrcR : List (List Ins) → List Value → Seg → Prop
  | [], cs, s => cs = [] ∧ s = []
  | l :: ls, cs, s => ∃ a c cs' sv s', cs = [.slice a l.length c] ++ cs' ∧ s = List.flatten [sv, s'] ∧ Arr 87 3 a l.length c (codeV l) sv ∧ SrcR ls cs' s'
def isSrc (rv : Value) (src : List (List Ins)) (s : Seg) : Prop :=
  ∃ ra rc cs sr sx, rv = .slice ra src.length rc ∧ s = List.flatten [sr, sx] ∧ Arr 34 1 ra src.length rc cs sr ∧ SrcR src cs sx
theorem SrcR.len : ∀ {l : List (List Ins)} {cs : List Value} {s : Seg}, SrcR l cs s → cs.length = l.length
  | [], _, _, h => by rw [h.1]; rfl
  | f :: l, _, _, h => by
    obtain ⟨a, c, cs', sv, s', rfl, rfl, _, h⟩ := h
    have := SrcR.len h; simp; omega
theorem SrcR.get : ∀ {l : List (List Ins)} {cs : List Value} {s : Seg}, SrcR l cs s → ∀ {g : Nat} {src : List Ins}, l[g]? = some src → ∃ a c s1 sv s2, cs[g]? = some (.slice a src.length c) ∧ s = List.flatten [s1, sv, s2] ∧ Arr 87 3 a src.length c (codeV src) sv
  | [], _, _, _, g, src, hg => by simp at hg
  | f :: l, _, _, h, g, src, hg => by
    obtain ⟨a, c, cs', sv, s', rfl, rfl, h1, h⟩ := h
    cases g with
    | zero => simp at hg; subst hg; exact ⟨a, c, [], sv, s', rfl, by simp, h1⟩
    | succ g =>
      obtain ⟨a1, c1, s1, sv1, s2, h2, rfl, h3⟩ := h.get (g := g) (by simpa using hg)
      exact ⟨a1, c1, sv ++ s1, sv1, s2, by simpa using h2, by simp, h3⟩
theorem SrcR.snoc : ∀ {l : List (List Ins)} {cs : List Value} {s : Seg}, SrcR l cs s → ∀ {f : List Ins} {a : Option Addr} {c : Nat} {sv : Seg}, Arr 87 3 a f.length c (codeV f) sv → SrcR (l ++ [f]) (cs ++ [.slice a f.length c]) (List.flatten [s, sv])
  | [], _, _, h, f, a, c, sv, h1 => by obtain ⟨rfl, rfl⟩ := h; exact ⟨a, c, [], sv, [], by simp, by simp, h1, rfl, rfl⟩
  | g :: l, _, _, h, f, a, c, sv, h1 => by
    obtain ⟨a0, c0, cs', sv0, s', rfl, rfl, h2, h⟩ := h
    exact ⟨a0, c0, _, sv0, _, by simp, by simp, h2, h.snoc h1⟩
/-- Where one body's row lies. -/
def SrcAt (sx : Seg) (src : List Ins) (sa : Option Addr) (sc : Nat) : Prop := ∃ s1 sv s2, sx = List.flatten [s1, sv, s2] ∧ Arr 87 3 sa src.length sc (codeV src) sv
structure RC (E : RE) (pb : Nat) (rv : Value) (sp sx : Seg) : Prop where
  pm : ∃ fa Pn steps, isPm pb fa Pn steps sp ∧ E.P = Pn.flat ∧ Pn.funs.length ≤ 1000
  sx : isSrc rv E.src sx
  fu : E.fuel ≤ 9223372036854775807
  tp : E.tape.length ≤ 140737488351232
  ni : 0 ≤ E.P.nimp ∧ E.P.nimp ≤ 1000
  sl : ∀ g, (E.P.sig g).1.length ≤ 50 ∧ (E.P.sig g).2.1.length ≤ 1 ∧ (E.P.sig g).2.2.1.length ≤ 50
  sr : ∀ g t, t ∈ (E.P.sig g).2.1 → t = 105 ∨ t = 108
  st : ∀ g t, t ∈ (E.P.sig g).2.2.1 → t = 105 ∨ t = 108
  wl : ∀ src, src ∈ E.src → src.length ≤ 1000 ∧ ∀ c, c ∈ src → well c = true
  nl : E.src.length ≤ 1000
abbrev pvp (b : Nat) : Value := .pointer (some ⟨b, 0, none⟩)
def RPost (x pb kb : Nat) (rv : Value) (E : RE) (sp sx : Seg) (la : Option Addr) (n lc : Nat) (r : RR) (v : Value) (H : Hp) : Prop :=
  ∃ s' sl' sk' st', v = .tuple #[I r.1, I r.2.1] ∧ H = [s', sl', sk', sp, sx] ∧ isR x (pvp pb) rv (pvp kb) E { r.2.2.1 with st := st' } s' ∧ (r.2.1 = 0 → st' = r.2.2.1.st) ∧ Arr 110 2 la n lc (r.2.2.2.flatMap wv) sl' ∧ isMm kb r.2.2.1.mem sk'
def IPost (x pb kb : Nat) (rv : Value) (E : RE) (sp sx : Seg) (r : Int × RS) (v : Value) (H : Hp) : Prop :=
  ∃ s' sk' st', v = I r.1 ∧ H = [s', sk', sp, sx] ∧ isR x (pvp pb) rv (pvp kb) E { r.2 with st := st' } s' ∧ (r.1 = 0 → st' = r.2.st) ∧ isMm kb r.2.mem sk'
def SeqOk (E : RE) (x pb kb : Nat) (rv : Value) (sp sx : Seg) (n : Nat) : Prop :=
  ∀ (R : RS) (s : Seg) (la : Option Addr) (lc : Nat) (loc : List W) (sl sk : Seg) (src : List Ins) (sa : Option Addr) (sc i : Nat) (op depth : Int) (h keep : Nat) (r : RR),
    isR x (pvp pb) rv (pvp kb) E R s → Arr 110 2 la loc.length lc (loc.flatMap wv) sl → loc.length ≤ 100 → isMm kb R.mem sk → src ∈ E.src → SrcAt sx src sa sc → 0 ≤ depth ∧ depth ≤ 100 →
    runM E n ⟨src, i, false, op, h, keep, depth⟩ R loc = some r →
    Spec Tryz.prog 140 [pvp x, .slice sa src.length sc, I i, .slice la loc.length lc, I depth] [s, sl, sk, sp, sx] (Ret (RPost x pb kb rv E sp sx la loc.length lc r))
def InvOk (E : RE) (x pb kb : Nat) (rv : Value) (sp sx : Seg) (n : Nat) : Prop :=
  ∀ (R : RS) (s : Seg) (sk : Seg) (f depth : Int) (r : Int × RS),
    isR x (pvp pb) rv (pvp kb) E R s → Small R → isMm kb R.mem sk → i64ok f → 0 ≤ depth ∧ depth ≤ 100 → invP E (runM E n) R f depth = some r →
    Spec Tryz.prog 107 [pvp x, I f, I depth] [s, sk, sp, sx] (Ret (IPost x pb kb rv E sp sx r))
theorem flat_inj {l : List W} {n : Nat} {la : Option Addr} {lc : Nat} {s : Seg} (h : Arr 110 2 la n lc (l.flatMap wv) s) : l.length = n := by
  have := h.1; rw [flat_len wv_len] at this; omega
end Go.Sl
