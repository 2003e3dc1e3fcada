/- Plain: package compm: the run's state; how it lies. -/
import Derived.Test.Qxb6500573aGreatDoorWTmC
import Derived.Test.Qxb6500573aGreatDoorBH
import Derived.Test.Qxb6500573aGreatDoorAF
namespace Go.Nm
open Go Go.Sl Go.Wl Go.Proofs
set_option linter.unusedVariables false
set_option linter.unusedSimpArgs false
structure TkM where
  k : Int
  n : Int
  x : Int
  e : Option Nat
structure ThM where
  st : Int
  fn : Int
  depth : Int
  tasks : List TkM
  vals : List V
structure EvM where
  name : List UInt8
  v : V
  up : Option Nat
structure RnM where
  nodes : List Nd
  root : Int
  clos : List (Int × Option Nat)
  ths : List ThM
  stk : List Int
  sp : Int
  cur : Int
  fuel : Int
  first : Int
  out : List UInt8
  done : Bool
  ans : Ans
  envs : List EvM
  ts : List Row
abbrev ptr (b : Nat) : Value := .pointer (some ⟨b, 0, none⟩)
def eAd (eb : List Nat) : Option Nat → Option Addr
  | none => none
  | some i => some ⟨eb.getD i 0, 0, none⟩
def ePt (eb : List Nat) (e : Option Nat) : Value := .pointer (eAd eb e)
def tskV (eb : List Nat) (t : TkM) : List Value := [I t.k, I t.n, I t.x, ePt eb t.e]
def clV (eb : List Nat) (c : Int × Option Nat) : List Value := [I c.1, ePt eb c.2]
def evV (eb : List Nat) (e : EvM) : List Value := [S e.name, I e.v.t, .int .u64 e.v.n, S e.v.s, ePt eb e.up]
theorem tskV_len (eb : List Nat) (t : TkM) : (tskV eb t).length = 4 := rfl
theorem clV_len (eb : List Nat) (t : Int × Option Nat) : (clV eb t).length = 2 := rfl
/-- In scope. -/
def eIn (n : Nat) (e : Option Nat) : Prop := ∀ i, e = some i → i < n
theorem ePt_app {eb : List Nat} (b : Nat) {e : Option Nat} (h : eIn eb.length e) : ePt (eb ++ [b]) e = ePt eb e := by
  cases e with
  | none => rfl
  | some i =>
    have hi := h i rfl
    show ptr ((eb ++ [b]).getD i 0) = ptr (eb.getD i 0)
    rw [List.getD_eq_getElem?_getD, List.getElem?_append_left hi, ← List.getD_eq_getElem?_getD]
theorem eIn.mono {n m : Nat} {e : Option Nat} (h : eIn n e) (hm : n ≤ m) : eIn m e := fun i hi => Nat.lt_of_lt_of_le (h i hi) hm
/-- The chain's nodes. -/
def evS (eb : List Nat) : List Nat → List EvM → Seg
  | b :: bs, e :: es => blk b 204 (evV eb e) ++ evS eb bs es
  | _, _ => []
theorem evS_app (eb : List Nat) (b : Nat) (e : EvM) : ∀ (bs : List Nat) (es : List EvM), bs.length = es.length → evS eb (bs ++ [b]) (es ++ [e]) = evS eb bs es ++ blk b 204 (evV eb e)
  | [], [], _ => by simp [evS]
  | x :: bs, y :: es, h => by simp only [List.cons_append, evS]; rw [evS_app eb b e bs es (by simpa using h), List.append_assoc]
  | [], _ :: _, h => by simp at h
  | _ :: _, [], h => by simp at h
theorem evV_app {eb : List Nat} (b : Nat) {e : EvM} (h : eIn eb.length e.up) : evV (eb ++ [b]) e = evV eb e := by unfold evV; rw [ePt_app b h]
theorem evS_mono (eb : List Nat) (b : Nat) : ∀ (bs : List Nat) (es : List EvM), (∀ e, e ∈ es → eIn eb.length e.up) → evS (eb ++ [b]) bs es = evS eb bs es
  | [], [], _ => rfl
  | x :: bs, y :: es, h => by
    simp only [evS]
    rw [evV_app b (h y List.mem_cons_self), evS_mono eb b bs es (fun e he => h e (List.mem_cons_of_mem _ he))]
  | [], _ :: _, _ => rfl
  | _ :: _, [], _ => rfl
/-- One node of the chain. -/
theorem evS_split (eb : List Nat) : ∀ (bs : List Nat) (es : List EvM) (i : Nat), bs.length = es.length → (hi : i < es.length) → ∃ s0 s2, evS eb bs es = s0 ++ (blk (bs.getD i 0) 204 (evV eb es[i]) ++ s2) ∧ ∀ e', evS eb bs (es.set i e') = s0 ++ (blk (bs.getD i 0) 204 (evV eb e') ++ s2)
  | [], [], i, _, hi => by simp at hi
  | x :: bs, y :: es, 0, h, hi => ⟨[], evS eb bs es, by simp [evS], fun e' => by simp [evS]⟩
  | x :: bs, y :: es, i + 1, h, hi => by
    obtain ⟨s0, s2, h1, h2⟩ := evS_split eb bs es i (by simpa using h) (by simpa using hi)
    refine ⟨blk x 204 (evV eb y) ++ s0, s2, ?_, fun e' => ?_⟩
    · simp only [evS, List.getD_cons_succ, List.getElem_cons_succ]; rw [h1]; simp
    · simp only [List.set_cons_succ, evS, List.getD_cons_succ]; rw [h2 e']; simp
  | [], _ :: _, _, h, _ => by simp at h
  | _ :: _, [], _, h, _ => by simp at h
def thR (eb : List Nat) (b : Nat) (t : ThM) (s : Seg) : Prop :=
  ∃ ta tc va vc sa sv, s = List.flatten [blk b 152 [I t.st, I t.fn, I t.depth, .slice ta t.tasks.length tc, .slice va t.vals.length vc], sa, sv] ∧ Arr 206 4 ta t.tasks.length tc (t.tasks.flatMap (tskV eb)) sa ∧ Arr 42 3 va t.vals.length vc (t.vals.flatMap valV) sv
def thsR (eb : List Nat) : List Nat → List ThM → Seg → Prop
  | b :: bs, t :: ts, s => ∃ s1 s2, s = s1 ++ s2 ∧ thR eb b t s1 ∧ thsR eb bs ts s2
  | [], [], s => s = []
  | _, _, _ => False
theorem thsR_split (eb : List Nat) : ∀ {bs : List Nat} {ts : List ThM} {s : Seg}, thsR eb bs ts s → ∀ {i : Nat} (hi : i < ts.length), ∃ s0 si s2, s = List.flatten [s0, si, s2] ∧ thR eb (bs.getD i 0) ts[i] si ∧ ∀ t' s', thR eb (bs.getD i 0) t' s' → thsR eb bs (ts.set i t') (List.flatten [s0, s', s2])
  | [], [], s, h, i, hi => by simp at hi
  | b :: bs, t :: ts, s, h, 0, hi => by
    obtain ⟨s1, s2, rfl, h1, h2⟩ := h
    exact ⟨[], s1, s2, by simp, h1, fun t' s' h' => ⟨s', s2, by simp, h', h2⟩⟩
  | b :: bs, t :: ts, s, h, i + 1, hi => by
    obtain ⟨s1, s2, rfl, h1, h2⟩ := h
    obtain ⟨s0, si, s3, rfl, h3, h4⟩ := thsR_split eb h2 (i := i) (by simpa using hi)
    refine ⟨s1 ++ s0, si, s3, by simp, h3, fun t' s' h' => ⟨s1, List.flatten [s0, s', s3], by simp, h1, h4 t' s' h'⟩⟩
  | [], _ :: _, _, h, _, _ => h.elim
  | _ :: _, [], _, h, _, hi => by simp at hi
theorem flat_tk {eb : List Nat} (b : Nat) : ∀ {l : List TkM}, (∀ t, t ∈ l → eIn eb.length t.e) → l.flatMap (tskV (eb ++ [b])) = l.flatMap (tskV eb)
  | [], _ => rfl
  | t :: l, h => by
    simp only [List.flatMap_cons]
    rw [flat_tk b (fun t ht => h t (List.mem_cons_of_mem _ ht))]
    unfold tskV
    rw [ePt_app b (h t List.mem_cons_self)]
theorem flat_cl {eb : List Nat} (b : Nat) : ∀ {l : List (Int × Option Nat)}, (∀ t, t ∈ l → eIn eb.length t.2) → l.flatMap (clV (eb ++ [b])) = l.flatMap (clV eb)
  | [], _ => rfl
  | t :: l, h => by
    simp only [List.flatMap_cons]
    rw [flat_cl b (fun t ht => h t (List.mem_cons_of_mem _ ht))]
    unfold clV
    rw [ePt_app b (h t List.mem_cons_self)]
theorem thsR_mono {eb : List Nat} (b : Nat) : ∀ {bs : List Nat} {ts : List ThM} {s : Seg}, (∀ t, t ∈ ts → ∀ q, q ∈ t.tasks → eIn eb.length q.e) → thsR eb bs ts s → thsR (eb ++ [b]) bs ts s
  | [], [], s, _, h => h
  | x :: bs, t :: ts, s, hs, h => by
    obtain ⟨s1, s2, rfl, ⟨ta, tc, va, vc, sa, sv, h1, h2, h3⟩, h4⟩ := h
    refine ⟨s1, s2, rfl, ⟨ta, tc, va, vc, sa, sv, h1, ?_, h3⟩, thsR_mono b (fun t ht => hs t (List.mem_cons_of_mem _ ht)) h4⟩
    rw [flat_tk b (hs t List.mem_cons_self)]; exact h2
  | [], _ :: _, _, _, h => h.elim
  | _ :: _, [], _, _, h => h.elim
theorem thsR_app {eb : List Nat} {b : Nat} {t : ThM} {s' : Seg} (h' : thR eb b t s') : ∀ {bs : List Nat} {ts : List ThM} {s : Seg}, thsR eb bs ts s → thsR eb (bs ++ [b]) (ts ++ [t]) (s ++ s')
  | [], [], s, h => ⟨s', [], by rw [show s = [] from h]; simp, h', rfl⟩
  | x :: bs, y :: ts, s, h => by
    obtain ⟨s1, s2, rfl, h1, h2⟩ := h
    exact ⟨s1, s2 ++ s', by simp, h1, thsR_app h' h2⟩
  | [], _ :: _, _, h => h.elim
  | _ :: _, [], _, h => h.elim
/-- Everything is in scope. -/
structure ScM (eb hb : List Nat) (m : RnM) : Prop where
  el : eb.length = m.envs.length
  hl : hb.length = m.ths.length
  tk : ∀ t, t ∈ m.ths → ∀ q, q ∈ t.tasks → eIn eb.length q.e
  cl : ∀ c, c ∈ m.clos → eIn eb.length c.2
  ev : ∀ e, e ∈ m.envs → eIn eb.length e.up
  st : m.stk.length = 5
/-- Where the run lies: its own block, the numbers', the tables', the nodes' row. -/
structure RX where
  b : Nat
  nb : Nat
  tb : Nat
  na : Option Addr
  nc : Nat
def rnV (x : RX) (ca ha : Option Addr) (cc hc : Nat) (m : RnM) : List Value :=
  [ptr x.nb, ptr x.tb, .slice x.na m.nodes.length x.nc, I m.root, .slice ca m.clos.length cc, .slice ha m.ths.length hc] ++ m.stk.map (fun i => I i) ++ [I m.sp, I m.cur, I m.fuel, I m.first, S m.out, .bool m.done, I m.ans.e, I m.ans.n, I m.ans.m, S m.ans.s, S m.ans.t]
def isRm (x : RX) (eb hb : List Nat) (m : RnM) (s : Seg) : Prop :=
  ∃ ca cc ha hc sN sC sH sT sB, s = List.flatten [blk x.b 142 (rnV x ca ha cc hc m), sN, sC, sH, sT, evS eb eb m.envs, sB] ∧
    Arr 158 8 x.na m.nodes.length x.nc (m.nodes.flatMap ndV) sN ∧ Arr 148 2 ca m.clos.length cc (m.clos.flatMap (clV eb)) sC ∧ Arr 149 1 ha m.ths.length hc (hb.map ptr) sH ∧ thsR eb hb m.ths sT ∧ isTm x.tb x.nb m.ts sB ∧ ScM eb hb m
/-- The heap has grown. -/
structure Gr (eb hb eb' hb' : List Nat) : Prop where
  e : eb <+: eb'
  h : hb <+: hb'
theorem Gr.refl (eb hb : List Nat) : Gr eb hb eb hb := ⟨List.prefix_refl _, List.prefix_refl _⟩
theorem Gr.trans {a b c d e f : List Nat} (h1 : Gr a b c d) (h2 : Gr c d e f) : Gr a b e f := ⟨h1.e.trans h2.e, h1.h.trans h2.h⟩
theorem ePt_pre {eb eb' : List Nat} (h : eb <+: eb') {e : Option Nat} (he : eIn eb.length e) : ePt eb' e = ePt eb e := by
  obtain ⟨t, rfl⟩ := h
  cases e with
  | none => rfl
  | some i =>
    have hi := he i rfl
    show ptr ((eb ++ t).getD i 0) = ptr (eb.getD i 0)
    rw [List.getD_eq_getElem?_getD, List.getElem?_append_left hi, ← List.getD_eq_getElem?_getD]
end Go.Nm
