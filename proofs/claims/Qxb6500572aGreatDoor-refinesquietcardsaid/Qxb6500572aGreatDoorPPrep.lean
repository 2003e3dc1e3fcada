/- The validator: plain, and as it lies in the heap. -/
import Derived.Test.Qxb6500572aGreatDoorSlM
import Derived.Test.Qxb6500572aGreatDoorPMach
namespace Go.Wl
open Go Go.Sl
set_option linter.unusedVariables false
set_option linter.unusedSimpArgs false

structure Flat where
  op : Int
  imm : Int
  keep : Int
  cut : Int
structure Blk where
  res : List UInt8
  carry : List UInt8
  height : Nat
  head : Int
  dead : Bool
  alt : Option Nat
  wait : List Nat
structure Chk where
  st : List UInt8
  opn : List Blk
  code : List Flat
structure Fun where
  params : List UInt8
  results : List UInt8
  locals : List UInt8
  code : List Flat
structure Prog where
  nimp : Int
  min : Int
  max : Int
  funs : List Fun

def Blk.nil : Blk := ⟨[], [], 0, 0, false, none, []⟩
def Chk.top (C : Chk) : Blk := C.opn.getD (C.opn.length - 1) Blk.nil
def Chk.setTop (C : Chk) (b : Blk) : Chk := { C with opn := C.opn.set (C.opn.length - 1) b }
def pop (C : Chk) (want : UInt8) : Chk × UInt8 × Bool :=
  if C.st.length = C.top.height then (C, want, C.top.dead)
  else if C.st.getD (C.st.length - 1) 0 = 0 then ({ C with st := C.st.take (C.st.length - 1) }, want, true)
  else ({ C with st := C.st.take (C.st.length - 1) }, C.st.getD (C.st.length - 1) 0, decide (want = 0 ∨ C.st.getD (C.st.length - 1) 0 = want))
/-- Downwards: the list reversed. -/
def popsR (C : Chk) : List UInt8 → Chk × Int
  | [] => (C, 0)
  | t :: ts => if (pop C t).2.2 then popsR (pop C t).1 ts else ((pop C t).1, 6)
def pops (C : Chk) (l : List UInt8) : Chk × Int := popsR C l.reverse
def swap (C : Chk) (i o : List UInt8) : Chk × Int := ({ (pops C i).1 with st := (pops C i).1.st ++ o }, (pops C i).2)
def leaves (C : Chk) (carry : List UInt8) : Chk × Int :=
  ({ (pops C carry).1.setTop { (pops C carry).1.top with dead := true } with st := (pops C carry).1.st.take (pops C carry).1.top.height }, (pops C carry).2)
def closes (C : Chk) : Chk × Int := ((pops C C.top.res).1, if (pops C C.top.res).1.st.length = C.top.height then (pops C C.top.res).2 else 6)
def hole (C : Chk) (f : Flat) : Chk := { C with code := C.code ++ [f] }
def fill (C : Chk) (at_ : Nat) (t : Int) : Chk := { C with code := C.code.modify at_ fun f => { f with imm := t } }
def fillC (code : List Flat) (l : List Nat) (t : Int) : List Flat := l.foldl (fun c a => c.modify a fun f => { f with imm := t }) code
def jump (C : Chk) (op : Int) (l : Nat) : Chk × List UInt8 :=
  let i := C.opn.length - 1 - l
  let b := C.opn.getD i Blk.nil
  let C1 := hole C ⟨op, b.head, b.carry.length, b.height⟩
  (if b.head < 0 then { C1 with opn := C1.opn.set i { b with wait := b.wait ++ [C.code.length] } } else C1, b.carry)
def resOf (imm : Int) : List UInt8 := if imm = 0 then [] else [UInt8.ofNat (imm % 256).toNat]
def enter (C : Chk) (c : Ins) : Chk × Int :=
  if c.op = 2 then ({ C with opn := C.opn ++ [⟨resOf c.imm, [], C.st.length, C.code.length, false, none, []⟩] }, 0)
  else if c.op = 3 then
    let r := pops C [105]
    let C1 := hole r.1 ⟨3, -1, 0, 0⟩
    ({ C1 with opn := C1.opn ++ [⟨resOf c.imm, resOf c.imm, C1.st.length, -1, false, some r.1.code.length, []⟩] }, r.2)
  else ({ C with opn := C.opn ++ [⟨resOf c.imm, resOf c.imm, C.st.length, -1, false, none, []⟩] }, 0)
/-- For a top block with a hole. -/
def turn (C : Chk) : Chk × Int :=
  let r := closes C
  let C1 := hole r.1 ⟨4, -1, 0, 0⟩
  let b := r.1.top
  let C2 := match b.alt with
    | some a => fill C1 a C1.code.length
    | none => C1
  (C2.setTop { b with wait := b.wait ++ [r.1.code.length], alt := none, dead := false }, r.2)
def leave (C : Chk) : Chk × Int :=
  let r := closes C
  let b := r.1.top
  let code := fillC r.1.code (b.wait ++ b.alt.toList) r.1.code.length
  ({ st := r.1.st ++ b.res, opn := r.1.opn.take (r.1.opn.length - 1), code := if r.1.opn.length = 1 then code ++ [⟨5, 0, 0, 0⟩] else code }, if b.alt.isSome = true ∧ b.res ≠ [] then 6 else r.2)
def branch (C : Chk) (c : Ins) : Chk × Int :=
  if (C.opn.length : Int) ≤ c.imm then (C, 5)
  else
    let r := jump C c.op c.imm.toNat
    if c.op = 6 then leaves r.1 r.2 else swap r.1 (r.2 ++ [105]) r.2
def jumps (C : Chk) : List UInt8 → Chk
  | [] => C
  | t :: ts => jumps (jump C 6 t.toNat).1 ts
def sames (C : Chk) (d : List UInt8) (l : List UInt8) : Bool := l.all fun t => decide ((C.opn.getD (C.opn.length - 1 - t.toNat) Blk.nil).carry = d)
def table (C : Chk) (c : Ins) : Chk × Int :=
  if c.tab.any (fun t => decide (C.opn.length ≤ t.toNat)) then (C, 5)
  else
    let C1 := hole C ⟨8, (c.tab.length : Int) - 1, 0, 0⟩
    let d := (C.opn.getD (C.opn.length - 1 - (c.tab.getD (c.tab.length - 1) 0).toNat) Blk.nil).carry
    let C2 := jumps C1 c.tab
    let r := leaves C2 (d ++ [105])
    (r.1, if sames C d c.tab then r.2 else 6)
def callI (fs : List Fun) (C : Chk) (c : Ins) : Chk × Int :=
  if (fs.length : Int) ≤ c.imm then (C, 5)
  else match fs[c.imm.toNat]? with
    | some f => swap C f.params f.results
    | none => (C, 5)
def sel (C : Chk) : Chk × Int :=
  let r := pops C [105]
  let a := pop r.1 0
  let b := pop a.1 a.2.1
  ({ b.1 with st := b.1.st ++ [b.2.1] }, if a.2.2 && b.2.2 then r.2 else 6)
def localI (u : Fun) (C : Chk) (c : Ins) : Chk × Int :=
  if ((u.params ++ u.locals).length : Int) ≤ c.imm then (C, 5)
  else
    let t := ((u.params ++ u.locals).take (c.imm.toNat + 1)).drop c.imm.toNat
    if c.op = 14 then pops C t else swap C [] t
def sigs (op : Int) : Option (List UInt8 × List UInt8) :=
  if op = 15 ∨ op = 17 then some ([], [105])
  else if op = 18 then some ([], [108])
  else if op = 16 ∨ op = 29 ∨ op = 19 ∨ op = 21 ∨ op = 22 ∨ op = 23 ∨ op = 24 then some ([105], [105])
  else if op = 20 ∨ op = 32 ∨ op = 33 then some ([105], [108])
  else if op = 25 ∨ op = 27 ∨ op = 28 then some ([105, 105], [])
  else if op = 26 then some ([105, 108], [])
  else if op = 30 ∨ op = 31 then some ([108], [105])
  else if 40 ≤ op ∧ op < 56 then some ([105, 105], [105])
  else if 60 ≤ op ∧ op < 76 then (if op - 60 = 13 ∨ op - 60 = 14 ∨ op - 60 = 15 then some ([108, 108], [105]) else some ([108, 108], [108]))
  else none
/-- What is neither control nor plain. -/
def special (fs : List Fun) (u : Fun) (C : Chk) (c : Ins) : Option (Chk × Int) :=
  if c.op = 0 then some (leaves C []) else if c.op = 9 then some (leaves C u.results) else if c.op = 11 then some (pops C [0])
  else if c.op = 10 then some (callI fs C c) else if c.op = 12 then some (sel C) else if c.op = 13 ∨ c.op = 14 then some (localI u C c) else none
def one (fs : List Fun) (u : Fun) (C : Chk) (c : Ins) : Chk × Int :=
  if c.op = 1 ∨ c.op = 2 ∨ c.op = 3 then enter C c
  else if c.op = 4 then turn C
  else if c.op = 5 then leave C
  else if c.op = 6 ∨ c.op = 7 then branch C c
  else if c.op = 8 then table C c
  else
    let r := match special fs u C c with
      | some r => r
      | none => match sigs c.op with
        | some (i, o) => swap C i o
        | none => (C, 3)
    (hole r.1 ⟨c.op, c.imm, 0, 0⟩, r.2)
def Chk.start (u : Fun) : Chk := ⟨[], [⟨u.results, u.results, 0, -1, false, none, []⟩], []⟩

/-! In the heap. -/
def flatV (c : Flat) : List Value := [I c.op, I c.imm, I c.keep, I c.cut]
theorem flatV_len (c : Flat) : (flatV c).length = 4 := rfl
def isHole (k : Nat) (a : Nat) (v : Value) (s : Seg) : Prop :=
  ∃ kc ac, v = .func (.func 151) #[] #[.pointer (some ⟨kc, 0, none⟩), .pointer (some ⟨ac, 0, none⟩)] ∧ s = List.flatten [blk kc 185 [.pointer (some ⟨k, 0, none⟩)], blk ac 3 [I a]]
def isAlt (k : Nat) : Option Nat → Value → Seg → Prop
  | none, v, s => v = .nilFunc ∧ s = []
  | some a, v, s => isHole k a v s
def Holes (k : Nat) : List Nat → List Value → Seg → Prop
  | [], vs, s => vs = [] ∧ s = []
  | a :: l, vs, s => ∃ v vs' sv s', vs = v :: vs' ∧ s = List.flatten [sv, s'] ∧ isHole k a v sv ∧ Holes k l vs' s'
def isBlk (k : Nat) (b : Blk) (cs : List Value) (s : Seg) : Prop :=
  ∃ fa wa wc vs sa sw sh, cs = [S b.res, S b.carry, I b.height, I b.head, .bool b.dead, fa, .slice wa b.wait.length wc] ∧ s = List.flatten [sa, sw, sh] ∧
    isAlt k b.alt fa sa ∧ Arr 227 1 wa b.wait.length wc vs sw ∧ Holes k b.wait vs sh
def Opens (k : Nat) : List Blk → List Value → Seg → Prop
  | [], cs, s => cs = [] ∧ s = []
  | b :: l, cs, s => ∃ c7 cs' sv s', cs = c7 ++ cs' ∧ s = List.flatten [sv, s'] ∧ isBlk k b c7 sv ∧ Opens k l cs' s'
def isChk (k : Nat) (pv uv mv : Value) (oa : Option Addr) (C : Chk) (s : Seg) : Prop :=
  ∃ ta tc oc ca cc st so sb cd cs, s = List.flatten [blk k 191 [pv, uv, .slice ta C.st.length tc, .slice oa C.opn.length oc, .slice ca C.code.length cc, mv], st, so, sb, cd] ∧
    Arr 5 1 ta C.st.length tc (bytesV C.st) st ∧ Arr 230 7 oa C.opn.length oc cs so ∧ Opens k C.opn cs sb ∧ Arr 181 4 ca C.code.length cc (C.code.flatMap flatV) cd
theorem isBlk.len {k : Nat} {b : Blk} {cs : List Value} {s : Seg} (h : isBlk k b cs s) : cs.length = 7 := by obtain ⟨_, _, _, _, _, _, _, rfl, _⟩ := h; rfl
theorem Opens.len {k : Nat} : ∀ {l : List Blk} {cs : List Value} {s : Seg}, Opens k l cs s → cs.length = l.length * 7
  | [], _, _, h => by rw [h.1]; rfl
  | b :: l, _, _, h => by
    obtain ⟨c7, cs', sv, s', rfl, rfl, hb, h⟩ := h
    have := Opens.len h; have := hb.len; simp; omega
/-- The block i, and what writing it makes. -/
theorem Opens.get {k : Nat} : ∀ {l : List Blk} {cs : List Value} {s : Seg}, Opens k l cs s → ∀ {i : Nat} (hi : i < l.length),
    ∃ ca c7 cb s1 sv s2, cs = ca ++ c7 ++ cb ∧ ca.length = i * 7 ∧ s = List.flatten [s1, sv, s2] ∧ isBlk k l[i] c7 sv ∧ Opens k (l.take i) ca s1 ∧
      ∀ b' c7' sv', isBlk k b' c7' sv' → Opens k (l.set i b') (ca ++ c7' ++ cb) (List.flatten [s1, sv', s2])
  | [], _, _, _, i, hi => by simp at hi
  | b :: l, cs, s, h, i, hi => by
    obtain ⟨c7, cs', sv, s', rfl, rfl, hb, h⟩ := h
    cases i with
    | zero => exact ⟨[], c7, cs', [], sv, s', by simp, by simp, by simp, hb, ⟨rfl, rfl⟩, fun b' c7' sv' hb' => ⟨c7', cs', sv', s', by simp, by simp, hb', h⟩⟩
    | succ i =>
      obtain ⟨ca, d7, cb, s1, dv, s2, rfl, hca, rfl, hd, ht, hp⟩ := h.get (i := i) (by simpa using hi)
      refine ⟨c7 ++ ca, d7, cb, sv ++ s1, dv, s2, by simp, by have := hb.len; simp; omega, by simp, hd, ⟨c7, ca, sv, s1, rfl, by simp, hb, ht⟩, fun b' c7' sv' hb' => ?_⟩
      exact ⟨c7, ca ++ c7' ++ cb, sv, List.flatten [s1, sv', s2], by simp, by simp, hb, hp b' c7' sv' hb'⟩
theorem Opens.snoc {k : Nat} : ∀ {l : List Blk} {cs : List Value} {s : Seg}, Opens k l cs s → ∀ {b : Blk} {c7 : List Value} {sv : Seg}, isBlk k b c7 sv → Opens k (l ++ [b]) (cs ++ c7) (List.flatten [s, sv])
  | [], _, _, h, b, c7, sv, hb => by obtain ⟨rfl, rfl⟩ := h; exact ⟨c7, [], sv, [], by simp, by simp, hb, rfl, rfl⟩
  | b0 :: l, _, _, h, b, c7, sv, hb => by
    obtain ⟨d7, cs', dv, s', rfl, rfl, hd, h⟩ := h
    exact ⟨d7, cs' ++ c7, dv, List.flatten [s', sv], by simp, by simp, hd, h.snoc hb⟩
theorem Holes.len {k : Nat} : ∀ {l : List Nat} {vs : List Value} {s : Seg}, Holes k l vs s → vs.length = l.length
  | [], _, _, h => by rw [h.1]; rfl
  | a :: l, _, _, h => by
    obtain ⟨v, vs', sv, s', rfl, rfl, _, h⟩ := h
    simp [Holes.len h]
theorem Holes.snoc {k : Nat} : ∀ {l : List Nat} {vs : List Value} {s : Seg}, Holes k l vs s → ∀ {a : Nat} {v : Value} {sv : Seg}, isHole k a v sv → Holes k (l ++ [a]) (vs ++ [v]) (List.flatten [s, sv])
  | [], _, _, h, a, v, sv, hb => by obtain ⟨rfl, rfl⟩ := h; exact ⟨v, [], sv, [], by simp, by simp, hb, rfl, rfl⟩
  | a0 :: l, _, _, h, a, v, sv, hb => by
    obtain ⟨v0, vs', s0, s', rfl, rfl, h0, h⟩ := h
    exact ⟨v0, vs' ++ [v], s0, List.flatten [s', sv], by simp, by simp, h0, h.snoc hb⟩
theorem Holes.get {k : Nat} : ∀ {l : List Nat} {vs : List Value} {s : Seg}, Holes k l vs s → ∀ {i : Nat} (hi : i < l.length), ∃ v s1 sv s2, vs[i]? = some v ∧ s = List.flatten [s1, sv, s2] ∧ isHole k l[i] v sv
  | [], _, _, _, i, hi => by simp at hi
  | a :: l, _, _, h, i, hi => by
    obtain ⟨v, vs', sv, s', rfl, rfl, h0, h⟩ := h
    cases i with
    | zero => exact ⟨v, [], sv, s', rfl, by simp, h0⟩
    | succ i =>
      obtain ⟨v', s1, sv', s2, h1, rfl, h2⟩ := h.get (i := i) (by simpa using hi)
      exact ⟨v', sv ++ s1, sv', s2, by simpa using h1, by simp, h2⟩
theorem mid_get {ca c7 cb sp : List Value} {i q k : Nat} {j : Int} (hj : j = i) (h : ca.length = i * k) (hq : q < c7.length) : ((ca ++ c7 ++ cb) ++ sp)[0 + j.toNat * k + q]? = some c7[q] := by
  subst hj
  rw [Int.toNat_natCast, Nat.zero_add, ← h, List.append_assoc, List.append_assoc, List.getElem?_append_right (by omega), Nat.add_sub_cancel_left, List.getElem?_append_left hq]
  exact List.getElem?_eq_getElem hq
theorem mid_set {ca c7 cb sp : List Value} {i q k : Nat} {j : Int} {v : Value} (hj : j = i) (h : ca.length = i * k) (hq : q < c7.length) : ((ca ++ c7 ++ cb) ++ sp).set (0 + j.toNat * k + q) v = (ca ++ c7.set q v ++ cb) ++ sp := by
  subst hj
  rw [Int.toNat_natCast, Nat.zero_add, ← h, List.append_assoc, List.append_assoc, List.set_append, if_neg (by omega), Nat.add_sub_cancel_left, List.set_append, if_pos hq]
  simp
theorem top_eq {C : Chk} (h : 0 < C.opn.length) : C.top = C.opn[C.opn.length - 1] := by
  unfold Chk.top; rw [List.getD_eq_getElem?_getD, List.getElem?_eq_getElem (by omega)]; rfl
theorem mid_cell {ca c7 cb sp : List Value} {i q k b : Nat} {j : Int} {T : TypeId} {H : Hp} {v : Value} (hj : j = i) (h : ca.length = i * k) (hv : c7[q]? = some v) : Cell (blk b T ((ca ++ c7 ++ cb) ++ sp) :: H) b (0 + j.toNat * k + q) v := by
  obtain ⟨hq, rfl⟩ := List.getElem?_eq_some_iff.1 hv
  exact Cell.head (mid_get hj h hq)
theorem mid_cells {ca c7 cb sp : List Value} {i k b : Nat} {j : Int} {T : TypeId} {H : Hp} (hj : j = i) (h : ca.length = i * k) (hk : c7.length = k) : Cells (blk b T ((ca ++ c7 ++ cb) ++ sp) :: H) b (0 + j.toNat * k) c7 := by
  refine Cells.head ?_
  subst hj
  rw [Int.toNat_natCast, Nat.zero_add, ← h, List.append_assoc, List.append_assoc, List.drop_left, List.take_left]
theorem isChk.intro {k : Nat} {pv uv mv : Value} {C : Chk} {ta oa ca : Option Addr} {n1 n2 n3 tc oc cc : Nat} {cs : List Value} {st so sb cd : Seg} (e1 : C.st.length = n1) (e2 : C.opn.length = n2) (e3 : C.code.length = n3)
    (h1 : Arr 5 1 ta n1 tc (bytesV C.st) st) (h2 : Arr 230 7 oa n2 oc cs so) (h3 : Opens k C.opn cs sb) (h4 : Arr 181 4 ca n3 cc (C.code.flatMap flatV) cd) :
    isChk k pv uv mv oa C (List.flatten [blk k 191 [pv, uv, .slice ta n1 tc, .slice oa n2 oc, .slice ca n3 cc, mv], st, so, sb, cd]) := by
  subst e1 e2 e3
  exact ⟨ta, tc, oc, ca, cc, st, so, sb, cd, cs, rfl, h1, h2, h3, h4⟩
/-- The row with one block written anew. -/
theorem _root_.Go.Sl.Arr.mid {T k : Nat} {b m c : Nat} {ca c7 c7' cb sp : List Value} (h : Arr T k (some ⟨b, 0, none⟩) m c (ca ++ c7 ++ cb) (blk b T (ca ++ c7 ++ cb ++ sp))) (hc : m ≤ c) (hs : sp.length = (c - m) * k) (hl : c7'.length = c7.length) :
    Arr T k (some ⟨b, 0, none⟩) m c (ca ++ c7' ++ cb) (blk b T (ca ++ c7' ++ cb ++ sp)) :=
  Arr.mk (by have := h.1; simp only [List.length_append] at this ⊢; omega) hc hs
theorem _root_.Go.Sl.Arr.cutTop {T k : Nat} {b m c i : Nat} {ca cb sp : List Value} (h : Arr T k (some ⟨b, 0, none⟩) m c (ca ++ cb) (blk b T (ca ++ cb ++ sp))) (hca : ca.length = i * k) (hi : i ≤ m) : Arr T k (some ⟨b, 0, none⟩) i c ca (blk b T (ca ++ cb ++ sp)) := by
  have := h.cut hi
  rwa [← hca, List.take_left] at this
theorem fillC_len (t : Int) : ∀ (l : List Nat) (code : List Flat), (fillC code l t).length = code.length
  | [], _ => rfl
  | a :: l, code => by
    show (fillC (code.modify a _) l t).length = _
    rw [fillC_len t l]; simp
theorem fillC_snoc (code : List Flat) (l : List Nat) (a : Nat) (t : Int) : fillC code (l ++ [a]) t = (fillC code l t).modify a fun f => { f with imm := t } := by simp [fillC]
theorem row_at {l sp : List Value} {i : Nat} {v : Value} (h : l[i]? = some v) : (l ++ sp)[0 + ((i : Nat) : Int).toNat * 1]? = some v := by
  have := (List.getElem?_eq_some_iff.1 h).1
  rw [Int.toNat_natCast, Nat.zero_add, Nat.mul_one, List.getElem?_append_left this]; exact h
theorem _root_.Go.Sl.Arr.cutMid {T k : Nat} {b m c i j : Nat} {ca c7 cb sp : List Value} (h : Arr T k (some ⟨b, 0, none⟩) m c (ca ++ c7 ++ cb) (blk b T (ca ++ c7 ++ cb ++ sp))) (hca : ca.length = i * k) (hi : i ≤ m) (hj : j = i) :
    Arr T k (some ⟨b, 0, none⟩) j c ca (blk b T (ca ++ c7 ++ cb ++ sp)) := by
  subst hj
  have := h.cut hi
  have e : (ca ++ c7 ++ cb).take (j * k) = ca := by rw [← hca, List.append_assoc, List.take_left]
  rwa [e] at this
end Go.Wl
