/- Plain: one step of the definitional interpreter, exactly. -/
import Derived.Test.Qxb6500573aGreatDoorCMJ
namespace Go.Sm
open Go Go.Sl Go.Wl Go.Nm Go.Proofs
set_option linter.unusedSectionVars false
set_option linter.unusedVariables false
theorem b1 {α γ : Type} (a : α) (f : α → Option γ) : bind1 (some a) f = f a := rfl
theorem b2 {α β γ : Type} (a : α) (b : β) (f : α → β → Option γ) : bind2 (some (a, b)) f = f a b := rfl
/-- The thread at hand with the tasks T (the top first) and the values W. -/
def ms (s : RnM) (T : List TkM) (W : List V) : RnM := rset s { thG s with tasks := T.reverse, vals := W }
section
variable {s : RnM} (h : curOk s)
include h
theorem thG_rset (t : ThM) : thG (rset s t) = t := by
  have := h.1
  unfold thG rset
  dsimp only
  rw [List.getD_eq_getElem?_getD, List.getElem?_set_self (by omega)]
  rfl
theorem curOk_rset (t : ThM) : curOk (rset s t) := by
  unfold curOk rset at *
  dsimp only
  rw [List.length_set]
  exact h
theorem rset_rset (a b : ThM) : rset (rset s a) b = rset s b := by
  unfold rset
  dsimp only
  rw [List.set_set]
theorem rset_same : rset s (thG s) = s := by
  have h1 := h.1
  have e : s.ths.set s.cur.toNat (thG s) = s.ths := by
    apply List.ext_getElem?
    intro i
    by_cases hi : s.cur.toNat = i
    · subst hi
      unfold thG
      rw [List.getElem?_set_self (by omega), List.getD_eq_getElem?_getD, List.getElem?_eq_getElem (by omega)]
      rfl
    · rw [List.getElem?_set_ne hi]
  unfold rset
  rw [e]
theorem ms_cur (T : List TkM) (W : List V) : curOk (ms s T W) := curOk_rset h _
theorem ms_th (T : List TkM) (W : List V) : thG (ms s T W) = { thG s with tasks := T.reverse, vals := W } := thG_rset h _
theorem ms_set (T : List TkM) (W : List V) (t : ThM) : rset (ms s T W) t = rset s t := rset_rset h _ _
theorem ms_ms (T T' : List TkM) (W W' : List V) : ms (ms s T W) T' W' = ms s T' W' := by
  unfold ms
  rw [thG_rset h, rset_rset h]
theorem ms_same {T : List TkM} {W : List V} (h1 : (thG s).tasks = T.reverse) (h2 : (thG s).vals = W) : ms s T W = s := by
  unfold ms
  rw [← h1, ← h2]
  exact rset_same h
theorem ms_push {T : List TkM} {W : List V} (v : V) (hW : W.length ≤ 1000000) : rpush v (ms s T W) = some (ms s T (W ++ [v])) := by
  unfold rpush
  rw [if_pos ⟨ms_cur h T W, by rw [ms_th h]; exact hW⟩, ms_set h, ms_th h]
  rfl
theorem ms_pop {T : List TkM} {W : List V} (v : V) (hW : W.length + 1 ≤ 1000000) : rpop (ms s T (W ++ [v])) = some (v, ms s T W) := by
  unfold rpop
  rw [if_pos ⟨ms_cur h T _, by rw [ms_th h]; simp; omega⟩, ms_set h, ms_th h]
  dsimp only
  rw [List.length_append, List.length_singleton, Nat.add_sub_cancel, List.take_left, List.getD_eq_getElem?_getD, List.getElem?_append_right (Nat.le_refl _), Nat.sub_self]
  rfl
theorem ms_do {T : List TkM} {W : List V} (k n x : Int) {e : Option Nat} (hT : T.length ≤ 1000000) (he : ∀ i, e = some i → i < s.envs.length) : rdo k n x e (ms s T W) = some (ms s (⟨k, n, x, e⟩ :: T) W) := by
  unfold rdo
  rw [if_pos ⟨ms_cur h T W, by rw [ms_th h]; simpa using hT, he⟩, ms_set h, ms_th h]
  unfold ms
  rw [List.reverse_cons]
theorem ms_step {T : List TkM} {W : List V} {q : TkM} {d : Nd} (hT : T.length + 1 ≤ 1000000) (hq : q.k ≠ 3) (hd : ndG s q.n = some d) : rstep (ms s (q :: T) W) = rtask q d (ms s T W) := by
  unfold rstep
  rw [if_neg (fun w => w ⟨ms_cur h _ W, by rw [ms_th h]; simp; omega⟩)]
  dsimp only
  rw [ms_th h]
  dsimp only
  rw [List.reverse_cons, List.length_append, List.length_singleton, Nat.add_sub_cancel, List.take_left, List.getD_eq_getElem?_getD, List.getElem?_append_right (Nat.le_refl _), Nat.sub_self]
  show (if q.k = 3 then _ else _) = _
  rw [if_neg hq]
  have e : rset (ms s (q :: T) W) { thG s with tasks := T.reverse, vals := W } = ms s T W := ms_set h _ _ _
  show bind1 (ndG (rset (ms s (q :: T) W) { thG s with tasks := T.reverse, vals := W }) q.n) _ = _
  rw [e]
  show bind1 (ndG s q.n) _ = _
  rw [hd]
  rfl
theorem ms_step3 {T : List TkM} {W : List V} {q : TkM} (hT : T.length + 1 ≤ 1000000) (hq : q.k = 3) : rstep (ms s (q :: T) W) = rtask q nd0 (ms s T W) := by
  unfold rstep
  rw [if_neg (fun w => w ⟨ms_cur h _ W, by rw [ms_th h]; simp; omega⟩)]
  dsimp only
  rw [ms_th h]
  dsimp only
  rw [List.reverse_cons, List.length_append, List.length_singleton, Nat.add_sub_cancel, List.take_left, List.getD_eq_getElem?_getD, List.getElem?_append_right (Nat.le_refl _), Nat.sub_self]
  show (if q.k = 3 then _ else _) = _
  rw [if_pos hq]
  have e : rset (ms s (q :: T) W) { thG s with tasks := T.reverse, vals := W } = ms s T W := ms_set h _ _ _
  show rtask q nd0 (rset (ms s (q :: T) W) { thG s with tasks := T.reverse, vals := W }) = _
  rw [e]
theorem ms_top {T : List TkM} {W : List V} {k : Nat} {v : V} (hW : W.length ≤ 1000000) (hk : 1 ≤ k ∧ k ≤ W.length) (hv : W[W.length - k]? = some v) : vTop k (ms s T W) = some v := by
  unfold vTop
  rw [if_pos ⟨ms_cur h T W, by rw [ms_th h]; dsimp only; omega⟩, ms_th h]
  exact hv
theorem ms_cut {T : List TkM} {W : List V} {k : Nat} (hW : W.length ≤ 1000000) (hk : k ≤ W.length) : rcutV k (ms s T W) = some (ms s T (W.take (W.length - k))) := by
  unfold rcutV
  rw [if_pos ⟨ms_cur h T W, by rw [ms_th h]; dsimp only; omega⟩, ms_set h, ms_th h]
  rfl
theorem ms_put {T : List TkM} {W : List V} {k : Nat} (v : V) (hW : W.length ≤ 1000000) (hk : 1 ≤ k ∧ k ≤ W.length) : rputV k v (ms s T W) = some (ms s T (W.set (W.length - k) v)) := by
  unfold rputV
  rw [if_pos ⟨ms_cur h T W, by rw [ms_th h]; dsimp only; omega⟩, ms_set h, ms_th h]
  rfl
end
/-- Steps of the interpreter. -/
inductive MS : RnM → RnM → Prop
  | refl (s : RnM) : MS s s
  | step {s s1 s2 : RnM} (hd : s.done = false) (h : rstep s = some s1) (h2 : MS s1 s2) : MS s s2
theorem MS.one {s s1 : RnM} (hd : s.done = false) (h : rstep s = some s1) : MS s s1 := .step hd h (.refl _)
theorem MS.trans {a b c : RnM} (h1 : MS a b) (h2 : MS b c) : MS a c := by
  induction h1 with
  | refl => exact h2
  | step hd h _ ih => exact .step hd h (ih h2)
/-! Names in a chain. -/
inductive Fd (es : List EvM) : Option Nat → List UInt8 → Option Nat → Prop
  | nil {nm : List UInt8} : Fd es none nm none
  | hit {i : Nat} {v : EvM} {nm : List UInt8} (h : es[i]? = some v) (hn : v.name = nm) : Fd es (some i) nm (some i)
  | up {i : Nat} {v : EvM} {nm : List UInt8} {r : Option Nat} (h : es[i]? = some v) (hn : v.name ≠ nm) (hu : Fd es v.up nm r) : Fd es (some i) nm r
def EnvWf (es : List EvM) : Prop := ∀ (i : Nat) (v : EvM), es[i]? = some v → ∀ j, v.up = some j → j < i
theorem Fd.find {es : List EvM} (hw : EnvWf es) {e : Option Nat} {nm : List UInt8} {r : Option Nat} (h : Fd es e nm r) : ∀ f, (∀ i, e = some i → i < f) → findE (f + 1) es e nm = some r := by
  induction h with
  | nil => intro f _; rfl
  | hit h hn =>
    intro f _
    unfold findE
    rw [h]
    dsimp only
    rw [if_pos hn]
  | @up i v nm r h hn hu ih =>
    intro f hf
    have h1 := hf i rfl
    obtain ⟨g, rfl⟩ : ∃ g, f = g + 1 := ⟨f - 1, by omega⟩
    unfold findE
    rw [h]
    dsimp only
    rw [if_neg hn]
    exact ih g fun j hj => by have := hw i v h j hj; omega
/-- Nothing of the chains is lost. -/
def Ext (es es' : List EvM) : Prop := ∀ (i : Nat) (v : EvM), es[i]? = some v → ∃ v', es'[i]? = some v' ∧ v'.name = v.name ∧ v'.up = v.up
theorem Fd.ext {es es' : List EvM} (hx : Ext es es') {e : Option Nat} {nm : List UInt8} {r : Option Nat} (h : Fd es e nm r) : Fd es' e nm r := by
  induction h with
  | nil => exact .nil
  | hit h hn =>
    obtain ⟨v', h1, h2, h3⟩ := hx _ _ h
    exact .hit h1 (by rw [h2]; exact hn)
  | up h hn hu ih =>
    obtain ⟨v', h1, h2, h3⟩ := hx _ _ h
    exact .up h1 (by rw [h2]; exact hn) (by rw [h3]; exact ih)
theorem Ext.refl (es : List EvM) : Ext es es := fun i v h => ⟨v, h, rfl, rfl⟩
theorem Ext.trans {a b c : List EvM} (h1 : Ext a b) (h2 : Ext b c) : Ext a c := fun i v h => by
  obtain ⟨v', q1, q2, q3⟩ := h1 i v h
  obtain ⟨v2, w1, w2, w3⟩ := h2 i v' q1
  exact ⟨v2, w1, w2.trans q2, w3.trans q3⟩
theorem Ext.app (es l : List EvM) : Ext es (es ++ l) := fun i v h => ⟨v, by rw [List.getElem?_append_left (List.getElem?_eq_some_iff.1 h).1]; exact h, rfl, rfl⟩
theorem Ext.set {es : List EvM} {i : Nat} {v : EvM} {w : V} (h : es[i]? = some v) : Ext es (es.set i { v with v := w }) := fun j u hj => by
  by_cases e : i = j
  · subst e
    rw [h] at hj
    injection hj with hj
    subst hj
    exact ⟨_, List.getElem?_set_self (List.getElem?_eq_some_iff.1 h).1, rfl, rfl⟩
  · exact ⟨u, by rw [List.getElem?_set_ne e]; exact hj, rfl, rfl⟩
theorem Fd.lt {es : List EvM} {e : Option Nat} {nm : List UInt8} {i : Nat} (h : Fd es e nm (some i)) : i < es.length ∧ ∃ v, es[i]? = some v ∧ v.name = nm := by
  generalize hr : some i = r at h
  induction h with
  | nil => cases hr
  | hit h hn => injection hr with hr; subst hr; exact ⟨(List.getElem?_eq_some_iff.1 h).1, _, h, hn⟩
  | up h hn hu ih => exact ih hr
theorem Fd.det {es : List EvM} {e : Option Nat} {nm : List UInt8} {r r' : Option Nat} (h : Fd es e nm r) (h' : Fd es e nm r') : r = r' := by
  induction h with
  | nil => cases h'; rfl
  | hit h hn =>
    cases h' with
    | hit => rfl
    | up g gn => rw [h] at g; injection g with g; subst g; exact absurd hn gn
  | up h hn hu ih =>
    cases h' with
    | hit g gn => rw [h] at g; injection g with g; subst g; exact absurd gn hn
    | up g gn gu => rw [h] at g; injection g with g; subst g; exact ih gu
/-- A new variable. -/
theorem Fd.new {es : List EvM} {e : Option Nat} {nm name : List UInt8} {v : V} {r : Option Nat} (h : Fd es e name r) (hn : nm ≠ name) : Fd (es ++ [⟨nm, v, e⟩]) (some es.length) name r :=
  .up (v := ⟨nm, v, e⟩) (by simp) hn (h.ext (.app _ _))
theorem Fd.newHit {es : List EvM} {e : Option Nat} {nm : List UInt8} {v : V} : Fd (es ++ [⟨nm, v, e⟩]) (some es.length) nm (some es.length) := .hit (v := ⟨nm, v, e⟩) (by simp) rfl
end Go.Sm
