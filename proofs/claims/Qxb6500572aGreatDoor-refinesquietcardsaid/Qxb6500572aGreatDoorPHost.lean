/- The host: plain, and as it lies in the heap. -/
import Derived.Test.Qxb6500572aGreatDoorPRun
import Derived.Test.Qxb6500572aGreatDoorWApiB
namespace Go.Wl
open Go Go.Sl
set_option linter.unusedVariables false

def sgn (b : UInt8) : Int := IntKind.i64.wrap (IntKind.i8.wrap b.toNat)
set_option maxRecDepth 100000 in
theorem wrap8_all : ∀ n : Fin 256, -128 ≤ IntKind.i8.wrap (n.val : Int) ∧ IntKind.i8.wrap (n.val : Int) ≤ 127 := by decide
theorem sgn_rng (b : UInt8) : -128 ≤ sgn b ∧ sgn b ≤ 127 := by
  unfold sgn
  have h : -128 ≤ IntKind.i8.wrap b.toNat ∧ IntKind.i8.wrap b.toNat ≤ 127 := by
    have hb : b.toNat < 256 := b.toNat_lt
    have := wrap8_all ⟨b.toNat, hb⟩
    exact this
  rw [wrap_i64 (by omega) (by omega)]
  exact h
def answer (s : List UInt8) (k : Nat) : List Val × Int :=
  if 6 ≤ k ∨ s.length ≤ 2 * k + 1 then ([], 16)
  else if ((s.getD (2 * k) 0).toNat : Int) = 105 ∨ ((s.getD (2 * k) 0).toNat : Int) = 108 then ([⟨s.getD (2 * k) 0, sgn (s.getD (2 * k + 1) 0)⟩], 0)
  else if ((s.getD (2 * k) 0).toNat : Int) = 50 then ([⟨105, sgn (s.getD (2 * k + 1) 0)⟩, ⟨105, sgn (s.getD (2 * k + 1) 0)⟩], 0)
  else if ((s.getD (2 * k) 0).toNat : Int) = 73 then ([⟨105, 2147483648 + sgn (s.getD (2 * k + 1) 0)⟩], 0)
  else if ((s.getD (2 * k) 0).toNat : Int) = 74 then ([⟨105, -2147483648 + sgn (s.getD (2 * k + 1) 0)⟩], 0)
  else if ((s.getD (2 * k) 0).toNat : Int) = 84 then (if 11 ≤ sgn (s.getD (2 * k + 1) 0) ∧ sgn (s.getD (2 * k + 1) 0) < 18 then ([], sgn (s.getD (2 * k + 1) 0)) else ([], 15))
  else if ((s.getD (2 * k) 0).toNat : Int) = 33 ∨ ((s.getD (2 * k) 0).toNat : Int) = 87 then ([], 15)
  else ([], 0)
/-- 'kind': 0: the tape; 1: no host; else: a nil tape. 'kept': how many arguments each kept row has. -/
structure Host where
  kind : Nat
  s : List UInt8
  trace : List UInt8
  k : Nat
  kept : List Nat
/-- An error of a host: 0: none; 1: an Errno; 2: wrapped; 3: rude. -/
structure HErr where
  kind : Nat
  e : Int
def herrV (x : HErr) : Value := if x.kind = 0 then .nilIface else if x.kind = 1 then .iface 51 (I x.e) else if x.kind = 2 then .iface 305 (.agg #[.iface 51 (I 11)]) else .iface 303 (.agg #[])
def hostCall (h : Host) (imq : Int) (args : List Val) : Host × List Val × HErr :=
  if h.kind ≠ 0 then (h, [], ⟨3, 0⟩)
  else if 6 < h.k then (h, [], ⟨1, 16⟩)
  else
    ({ h with trace := h.trace ++ [104] ++ numS imq ++ valsS args, k := h.k + 1, kept := h.kept ++ [args.length] },
      (if (answer h.s h.k).2 = 0 then (answer h.s h.k).1 else []),
      if (answer h.s h.k).2 = 0 then ⟨0, 0⟩
      else if (answer h.s h.k).2 = 16 ∧ (6 < h.k + 1 ∨ h.s.length < 2 * (h.k + 1)) then ⟨1, 16⟩
      else if ((h.s.getD (2 * h.k) 0).toNat : Int) = 84 then ⟨1, sgn (h.s.getD (2 * h.k + 1) 0)⟩
      else if ((h.s.getD (2 * h.k) 0).toNat : Int) = 87 then ⟨2, 0⟩
      else ⟨3, 0⟩)
def scrib : List Value := [.int .u8 33, I (-7)]
def KeptR : List Nat → List Value → Seg → Prop
  | [], cs, s => cs = [] ∧ s = []
  | n :: l, cs, s => ∃ a c cs' sv s', cs = [.slice a n c] ++ cs' ∧ s = List.flatten [sv, s'] ∧ Arr 110 2 a n c (List.replicate n scrib).flatten sv ∧ KeptR l cs' s'
def isTape (b : Nat) (h : Host) (s : Seg) : Prop :=
  ∃ ka kc cs sk sr, s = List.flatten [blk b 138 [S h.s, S h.trace, I h.k, .slice ka h.kept.length kc], sk, sr] ∧ Arr 35 1 ka h.kept.length kc cs sk ∧ KeptR h.kept cs sr
def isHost (b : Nat) (h : Host) (s : Seg) : Prop := if h.kind = 0 then isTape b h s else s = []
def hostV (b : Nat) (h : Host) : Value := if h.kind = 0 then .iface 135 (.pointer (some ⟨b, 0, none⟩)) else if h.kind = 1 then .nilIface else .iface 135 (.pointer none)
theorem KeptR.len : ∀ {l : List Nat} {cs : List Value} {s : Seg}, KeptR l cs s → cs.length = l.length
  | [], _, _, h => by rw [h.1]; rfl
  | n :: l, _, _, h => by
    obtain ⟨a, c, cs', sv, s', rfl, rfl, _, h⟩ := h
    have := KeptR.len h; simp; omega
theorem KeptR.get : ∀ {l : List Nat} {cs : List Value} {s : Seg}, KeptR l cs s → ∀ {i : Nat} (hi : i < l.length),
    ∃ a c s1 sv s2, cs[i]? = some (.slice a l[i] c) ∧ s = List.flatten [s1, sv, s2] ∧ Arr 110 2 a l[i] c (List.replicate l[i] scrib).flatten sv
  | [], _, _, _, i, hi => by simp at hi
  | n :: l, cs, s, h, i, hi => by
    obtain ⟨a, c, cs', sv, s', rfl, rfl, ha, h⟩ := h
    cases i with
    | zero => exact ⟨a, c, [], sv, s', by simp, by simp, ha⟩
    | succ i =>
      obtain ⟨a1, c1, s1, dv, s2, h1, rfl, h3⟩ := h.get (i := i) (by simpa using hi)
      exact ⟨a1, c1, sv ++ s1, dv, s2, by simpa using h1, by simp, h3⟩
theorem KeptR.snoc : ∀ {l : List Nat} {cs : List Value} {s : Seg}, KeptR l cs s → ∀ {n : Nat} {a : Option Addr} {c : Nat} {sv : Seg}, Arr 110 2 a n c (List.replicate n scrib).flatten sv →
    KeptR (l ++ [n]) (cs ++ [.slice a n c]) (List.flatten [s, sv])
  | [], _, _, h, n, a, c, sv, ha => by obtain ⟨rfl, rfl⟩ := h; exact ⟨a, c, [], sv, [], by simp, by simp, ha, rfl, rfl⟩
  | m :: l, _, _, h, n, a, c, sv, ha => by
    obtain ⟨a0, c0, cs', s0, s', rfl, rfl, h0, h⟩ := h
    exact ⟨a0, c0, _, s0, _, by simp, by simp, h0, h.snoc ha⟩
end Go.Wl
namespace Go.Wl
open Go Go.Sl
def W.ok (y : W) : Prop := if y.w = true then -9223372036854775808 ≤ y.n ∧ y.n ≤ 9223372036854775807 else -2147483648 ≤ y.n ∧ y.n ≤ 2147483647
def W.val (y : W) : Val := ⟨y.t, y.n⟩
theorem W.ok_rng {y : W} (h : y.ok) : -9223372036854775808 ≤ y.n ∧ y.n ≤ 9223372036854775807 := by
  unfold W.ok at h; split at h <;> omega
def fits (v : Val) (t : UInt8) : Bool := decide ((v.t.toNat : Int) = t.toNat ∧ ((t.toNat : Int) = 108 ∨ v.v = IntKind.i64.wrap (IntKind.i32.wrap v.v)))
def fitsAll : List Val → List UInt8 → Bool
  | [], [] => true
  | v :: l, t :: m => fits v t && fitsAll l m
  | _, _ => false
def trapOf (x : HErr) : Int := if x.kind = 0 then 0 else if x.kind = 1 ∧ 11 ≤ x.e ∧ x.e < 18 then x.e else 15
def askM (h : Host) (imq : Int) (rs : List UInt8) (vals : List W) : Host × Int × List W :=
  if h.kind = 1 then (h, 15, [])
  else if trapOf (hostCall h imq (vals.map W.val)).2.2 ≠ 0 then ((hostCall h imq (vals.map W.val)).1, trapOf (hostCall h imq (vals.map W.val)).2.2, [])
  else if fitsAll (hostCall h imq (vals.map W.val)).2.1 rs = false then ((hostCall h imq (vals.map W.val)).1, 15, [])
  else ((hostCall h imq (vals.map W.val)).1, 0, (hostCall h imq (vals.map W.val)).2.1.map fun v => word v.t v.v)
theorem fitsAll_len : ∀ {l : List Val} {m : List UInt8}, fitsAll l m = true → l.length = m.length
  | [], [], _ => rfl
  | v :: l, t :: m, h => by
    simp only [fitsAll, Bool.and_eq_true] at h
    have := fitsAll_len h.2; simp [this]
  | [], _ :: _, h => by simp [fitsAll] at h
  | _ :: _, [], h => by simp [fitsAll] at h
theorem fitsAll_iff : ∀ {l : List Val} {m : List UInt8}, l.length = m.length → (fitsAll l m = true ↔ ∀ (k : Nat) (h1 : k < l.length) (h2 : k < m.length), fits l[k] m[k] = true)
  | [], [], _ => ⟨fun _ k h1 _ => by simp at h1, fun _ => rfl⟩
  | v :: l, t :: m, h => by
    have ih := fitsAll_iff (l := l) (m := m) (by simpa using h)
    simp only [fitsAll, Bool.and_eq_true, ih]
    constructor
    · rintro ⟨h1, h2⟩ k h3 h4
      cases k with
      | zero => exact h1
      | succ k => exact h2 k (by simpa using h3) (by simpa using h4)
    · intro hh
      exact ⟨hh 0 (by simp) (by simp), fun k h1 h2 => hh (k + 1) (by simpa using h1) (by simpa using h2)⟩
  | [], _ :: _, h => by simp at h
  | _ :: _, [], h => by simp at h
end Go.Wl
