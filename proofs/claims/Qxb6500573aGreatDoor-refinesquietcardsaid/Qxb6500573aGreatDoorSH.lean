/- Plain: the interpreter and the machine: calls, threads, the whole state. -/
import Derived.Test.Qxb6500573aGreatDoorSG
namespace Go.Sm
open Go Go.Sl Go.Wl Go.Nm Go.Proofs
set_option linter.unusedVariables false
/-- One call: its function, its scope, the locals alive, where it lies, what is still to be done. -/
structure FI where
  x : Nat
  E : Sco
  br : Brk
  L : List Nm8
  B : Nat
  up : Nat
  pc : Nat
  T : List TkM
  w : Nat
  h : Nat
  nsl : Nat
  no : Nat
  tb : List Nat
  iv : List Nat
/-- What does not change in a run. -/
structure Cn where
  ns : List Nd
  P : List Fs
  root : Int
  g : Pg
  PT : Nat → Nat → Ty
  HB : Nat
/-- The loop over the table t finds its key k. -/
def NxOk (tabs : List Tb) (t k : V) : Prop := t.t = 4 ∧ (nextR (tabs.getD t.n.toNat Tb.empty).order k).2.2 = 0
def NxAt (tabs : List Tb) (X : List V) (q : Nat) : Prop := ∃ t k, X[q]? = some t ∧ X[q + 1]? = some k ∧ NxOk tabs t k
theorem NxAt.app {tabs : List Tb} {X : List V} {q : Nat} (h : NxAt tabs X q) (Y : List V) : NxAt tabs (X ++ Y) q := by
  obtain ⟨t, k, h1, h2, h3⟩ := h
  exact ⟨t, k, by rw [List.getElem?_append_left (lt_of h1)]; exact h1, by rw [List.getElem?_append_left (lt_of h2)]; exact h2, h3⟩
theorem NxAt.pre {tabs : List Tb} {X Y : List V} {q : Nat} (h : NxAt tabs (X ++ Y) q) (hq : q + 2 ≤ X.length) : NxAt tabs X q := by
  obtain ⟨t, k, h1, h2, h3⟩ := h
  rw [List.getElem?_append_left (by omega)] at h1 h2
  exact ⟨t, k, h1, h2, h3⟩
structure FrOk (K : Cn) (es : List EvM) (ρ : Nat → Option Plc) (m : VM) (u : Nat) (S : List V) (aw : Nat) (f : Fr) (F : FI) (e : Nat) (seg : List V) : Prop where
  b : f.base = (F.B : Int)
  r : 0 ≤ f.ret ∧ f.ret ≤ F.B
  pc : f.pc = (F.pc : Int)
  cl : ∃ cl p, getI m.vs.clos f.clo = some cl ∧ cl.p = (F.x : Int) ∧ cl.up = (F.up : Int) ∧ K.g.protos[F.x]? = some p ∧ p.nslots = (F.nsl : Int)
  ll : F.L.length ≤ F.nsl
  e1 : F.B + F.nsl ≤ e ∧ e ≤ S.length
  sg : seg = hidV S F.B F.L ++ (S.take e).drop (F.B + F.nsl)
  kt : Kt K.ns K.P F.x F.E K.HB (VOk K.P es ρ m u F.B F.x F.E F.up) F.h (if f.prot = true then 1 else 0) F.iv F.br F.L F.pc F.no F.tb F.T F.w
  nc : F.no + (F.B + F.nsl) = e + aw
  tv : ∀ p, p ∈ F.tb → ∃ v, ((S.take e).drop (F.B + F.nsl))[p]? = some v ∧ v.t = 4
  iv : ∀ q, q ∈ F.iv → q + 2 ≤ hidN F.L ∧ NxAt m.vs.tabs seg q
/-- A thread's calls: the tasks (the top first), the values; the last one's operands end at e. -/
inductive TRs (K : Cn) (es : List EvM) (ρ : Nat → Option Plc) (m : VM) (u : Nat) (S : List V) : Nat → List Fr → List FI → List TkM → List V → Nat → Prop
  | nil {aw : Nat} : TRs K es ρ m u S aw [] [] [] [] 0
  | snoc {aw : Nat} {fs : List Fr} {l : List FI} {Tk : List TkM} {W : List V} {f : Fr} {F : FI} {e : Nat} {seg : List V} (h : TRs K es ρ m u S 2 fs l Tk W f.ret.toNat) (hf : FrOk K es ρ m u S aw f F e seg) (hh : F.h = W.length) : TRs K es ρ m u S aw (fs ++ [f]) (l ++ [F]) (F.T ++ Tk) (W ++ seg) e
/-- The place a is a variable's. -/
def Live (l : List FI) (a : Nat) : Prop := ∃ F, F ∈ l ∧ ∃ (s : Nat) (nm : Nm8), F.L[s]? = some nm ∧ nm ≠ [] ∧ a = F.B + s
/-- A function: its node, its parameters, its code. -/
structure FnD (K : Cn) (y : Nat) (E : Sco) (node : Int) (d : Nd) (f : Fs) (ps : List Nm8) : Prop where
  hd : nd K.ns node = some d
  hf : K.P[y]? = some f
  hp : ∃ mm, parS K.ns mm d.a ps
  hnp : f.nparams = (ps.length : Int)
  hps : ps.length ≤ 3 ∧ ∀ s, s ∈ ps → s ≠ []
  body : ∃ (lo hi p1 p2 : Nat) (L1 : List Nm8), 7 * (hi - lo) + 1 ≤ K.HB ∧ Sp K.ns K.P (.sts none L1) lo hi y E ps 0 (if node = 0 then K.root else d.b) p1 ∧ levS K.P y ps.length L1 p1 p2 ∧ insP K.P y p2 = some (2, 0) ∧ insP K.P y (p2 + 1) = some (2, 0) ∧ insP K.P y (p2 + 2) = some (27, 0)
structure CloR (K : Cn) (es : List EvM) (ρ : Nat → Option Plc) (m : VM) (mc : Int × Option Nat) (cl : Cl) : Prop where
  rg : ∀ i, mc.2 = some i → i < es.length
  ok : ∃ (y up : Nat) (E : Sco) (d : Nd) (f : Fs) (ps : List Nm8), cl.p = (y : Int) ∧ cl.up = (up : Int) ∧ FnD K y E mc.1 d f ps ∧ ∀ name, name ≠ [] → VU K.P es ρ m y E up mc.2 name
def PlV (m : VM) : Plc → V → Prop
  | .stk u a, v => ∃ t, m.vs.threads[u]? = some t ∧ t.stack[a]? = some v
  | .cel j, v => ∃ e, m.vs.cells[j]? = some e ∧ e.th < 0 ∧ e.v = v
/-- The bottom call is not protected. -/
def Bot (fs : List Fr) : Prop := ∀ f, fs[0]? = some f → f.prot = false
theorem Bot.pc {fs : List Fr} {f : Fr} (h : Bot (fs ++ [f])) (q : Int) : Bot (fs ++ [{ f with pc := q }]) := fun f' hf' => by
  cases fs with
  | nil => injection hf' with hf'; subst hf'; exact h f rfl
  | cons a l => exact h f' hf'
/-- Two values are awaited where the thread does not run. -/
def awOf (st : Int) : Nat := if st = 4 then 0 else 2
structure ThOk (K : Cn) (es : List EvM) (ρ : Nat → Option Plc) (m : VM) (u : Nat) (t : Th) (q : ThM) (l : List FI) : Prop where
  st : q.st = t.st
  fn : t.st = 1 → q.fn = t.fn
  dp : q.depth = (l.length : Int)
  bt : Bot t.frames
  tr : TRs K es ρ m u t.stack (awOf t.st) t.frames l q.tasks.reverse q.vals t.stack.length
structure Rl (K : Cn) (s : RnM) (m : VM) (th : Nat) (S : List Nat) (cn : Int) (ρ : Nat → Option Plc) (fi : Nat → List FI) : Prop where
  nd : s.nodes = K.ns ∧ s.root = K.root
  dn : s.done = false
  cr : s.cur = (th : Int)
  ln : s.ths.length = m.vs.threads.length ∧ th < m.vs.threads.length ∧ m.vs.threads.length ≤ 5
  sp : s.sp = (S.length : Int)
  st : s.stk.length = 5 ∧ ∀ (k u : Nat), S.reverse[k]? = some u → s.stk[k]? = some (u : Int)
  sn : (th :: S).Nodup ∧ ∀ u, u ∈ S → ∃ t, m.vs.threads[u]? = some t ∧ t.st = 3
  fu : s.fuel = m.vs.fuel
  ou : s.out = m.vs.out
  fr : s.first = cn
  ts : TsX m.vs.tabs s.ts
  wf : EnvWf s.envs
  vl : ∀ i pl, ρ i = some pl → ∃ ev, s.envs[i]? = some ev ∧ PlV m pl ev.v
  ij : ∀ i j pl, ρ i = some pl → ρ j = some pl → i = j
  lv : ∀ i u a, ρ i = some (.stk u a) → Live (fi u) a
  cl : s.clos.length = m.vs.clos.length ∧ ∀ (j : Nat) mc cl, s.clos[j]? = some mc → m.vs.clos[j]? = some cl → CloR K s.envs ρ m mc cl
  th : ∀ (u : Nat) t, m.vs.threads[u]? = some t → ∃ q, s.ths[u]? = some q ∧ ThOk K s.envs ρ m u t q (fi u)
/-- What may change of the variables: Keep tells the places that stay. -/
structure Chg (Keep : Nat → Nat → Prop) (es : List EvM) (ρ : Nat → Option Plc) (m : VM) (es' : List EvM) (ρ' : Nat → Option Plc) (m' : VM) : Prop where
  ext : Ext es es'
  len : es.length ≤ es'.length
  upv : ∀ i pl idx, i < es.length → ρ i = some pl → UpAt m idx pl → ∃ pl', ρ' i = some pl' ∧ UpAt m' idx pl'
  slt : ∀ i u a, i < es.length → ρ i = some (.stk u a) → Keep u a → ρ' i = some (.stk u a)
  nx : ∀ t k, NxOk m.vs.tabs t k → NxOk m'.vs.tabs t k
section
variable {Keep : Nat → Nat → Prop} {K : Cn} {es es' : List EvM} {ρ ρ' : Nat → Option Plc} {m m' : VM} {u : Nat} {S S' : List V}
theorem VU.chg (h : Chg Keep es ρ m es' ρ' m') {P : List Fs} {x : Nat} {E : Sco} {up : Nat} {e : Option Nat} {name : Nm8} (hv : VU P es ρ m x E up e name) : VU P es' ρ' m' x E up e name := by
  refine ⟨fun y hy => ?_, fun hy => (hv.2 hy).ext h.ext⟩
  obtain ⟨i, pl, q1, q2, q3⟩ := hv.1 y hy
  obtain ⟨pl', w1, w2⟩ := h.upv i pl _ q1.lt.1 q2 q3
  exact ⟨i, pl', q1.ext h.ext, w1, w2⟩
theorem VOk.chg (h : Chg Keep es ρ m es' ρ' m') {P : List Fs} {B x : Nat} {E : Sco} {up : Nat} {L : List Nm8} {e : Option Nat} (hk : ∀ (s : Nat) nm, L[s]? = some nm → nm ≠ [] → Keep u (B + s)) (hv : VOk P es ρ m u B x E up L e) : VOk P es' ρ' m' u B x E up L e := by
  refine ⟨fun i hi => Nat.lt_of_lt_of_le (hv.rg i hi) h.len, fun name hn s hs => ?_, fun name hn hs => (hv.up name hn hs).chg h⟩
  obtain ⟨i, q1, q2⟩ := hv.sl name hn s hs
  exact ⟨i, q1.ext h.ext, h.slt i u _ q1.lt.1 q2 (hk s name (slot_at hs) hn)⟩
theorem CloR.chg (h : Chg Keep es ρ m es' ρ' m') {mc : Int × Option Nat} {cl : Cl} (hc : CloR K es ρ m mc cl) : CloR K es' ρ' m' mc cl := by
  obtain ⟨h1, y, up, E, d, f, ps, q1, q2, q3, q4⟩ := hc
  exact ⟨fun i hi => Nat.lt_of_lt_of_le (h1 i hi) h.len, y, up, E, d, f, ps, q1, q2, q3, fun name hn => (q4 name hn).chg h⟩
theorem FrOk.chg (h : Chg Keep es ρ m es' ρ' m') (hcl : ∀ i x, getI m.vs.clos i = some x → getI m'.vs.clos i = some x) {aw : Nat} {f : Fr} {F : FI} {e : Nat} {seg : List V} (hk : ∀ s, s < F.L.length → Keep u (F.B + s)) (hf : FrOk K es ρ m u S aw f F e seg) : FrOk K es' ρ' m' u S aw f F e seg := by
  refine ⟨hf.b, hf.r, hf.pc, ?_, hf.ll, hf.e1, hf.sg, ?_, ?_, ?_, fun q hq => ?_⟩
  · obtain ⟨cl, p, q1, q2⟩ := hf.cl
    exact ⟨cl, p, hcl _ _ q1, q2⟩
  · exact hf.kt.mono (b := F.L.length) (fun L e hl hv => hv.chg h fun s nm h1 h2 => hk s (hl s nm h1 h2)) (Nl.self _)
  · exact hf.nc
  · exact hf.tv
  · obtain ⟨h1, t, k, h2, h3, h4⟩ := hf.iv q hq
    exact ⟨h1, t, k, h2, h3, h.nx t k h4⟩
theorem TRs.chg (h : Chg Keep es ρ m es' ρ' m') (hcl : ∀ i x, getI m.vs.clos i = some x → getI m'.vs.clos i = some x) {aw : Nat} {fs : List Fr} {l : List FI} {Tk : List TkM} {W : List V} {e : Nat} (ht : TRs K es ρ m u S aw fs l Tk W e) : (∀ a, a < e → Keep u a) → TRs K es' ρ' m' u S aw fs l Tk W e := by
  induction ht with
  | nil => intro _; exact .nil
  | @snoc aw fs l Tk W f F e seg h1 hf hh ih =>
    intro hk
    have h2 := hf.e1
    have h3 := hf.ll
    have h4 := hf.r
    exact .snoc (ih fun a ha => hk a (by omega)) (hf.chg h hcl fun s hs => hk _ (by omega)) hh
/-- Only what lies below e matters. -/
theorem TRs.congr {aw : Nat} {fs : List Fr} {l : List FI} {Tk : List TkM} {W : List V} {e : Nat} (ht : TRs K es ρ m u S aw fs l Tk W e) : S.take e = S'.take e → e ≤ S'.length → TRs K es ρ m u S' aw fs l Tk W e := by
  induction ht with
  | nil => intro _ _; exact .nil
  | @snoc aw fs l Tk W f F e seg h1 hf hh ih =>
    intro hs he
    have h2 := hf.e1
    have h3 := hf.ll
    have h4 := hf.r
    have hs2 : S.take f.ret.toNat = S'.take f.ret.toNat := by
      have := congrArg (List.take f.ret.toNat) hs
      rwa [List.take_take, List.take_take, Nat.min_eq_left (by omega)] at this
    refine .snoc (ih hs2 (by omega)) ⟨hf.b, hf.r, hf.pc, hf.cl, hf.ll, ⟨h2.1, he⟩, ?_, hf.kt, hf.nc, by rw [← hs]; exact hf.tv, hf.iv⟩ hh
    rw [hf.sg, hs]
    congr 1
    refine hidV_congr _ _ fun k hk => ?_
    have := lt_of hk
    exact at_take hs (by omega)
/-- A store to a variable's place. -/
theorem TRs.poke {aw : Nat} {fs : List Fr} {l : List FI} {Tk : List TkM} {W : List V} {e : Nat} (ht : TRs K es ρ m u S aw fs l Tk W e) {a : Nat} (v : V) : Live l a → TRs K es ρ m u (S.set a v) aw fs l Tk W e := by
  induction ht with
  | nil => intro _; exact .nil
  | @snoc aw fs l Tk W f F e seg h1 hf hh ih =>
    intro hl
    have h2 := hf.e1
    have h3 := hf.ll
    have h4 := hf.r
    obtain ⟨G, hG, s, nm, q1, q2, q3⟩ := hl
    have hops : a < F.B + F.nsl → ∀ p, p ∈ F.tb → ∃ v', (((S.set a v).take e).drop (F.B + F.nsl))[p]? = some v' ∧ v'.t = 4 := fun ha p hp => by
      obtain ⟨v', w1, w2⟩ := hf.tv p hp
      refine ⟨v', ?_, w2⟩
      simp only [List.getElem?_drop, List.getElem?_take] at w1 ⊢
      rw [List.getElem?_set_ne (by omega)]
      exact w1
    rcases List.mem_append.1 hG with hG | hG
    · have hlive : Live l a := ⟨G, hG, s, nm, q1, q2, q3⟩
      have hlow : a < f.ret.toNat := by
        clear ih
        have key : ∀ {aw : Nat} {fs : List Fr} {l : List FI} {Tk : List TkM} {W : List V} {e : Nat}, TRs K es ρ m u S aw fs l Tk W e → ∀ G, G ∈ l → G.B + G.L.length ≤ e := by
          intro aw fs l Tk W e hT
          induction hT with
          | nil => intro G hG; cases hG
          | @snoc aw fs l Tk W f F e seg h1 hf hh ih =>
            intro G hG
            have h2 := hf.e1
            have h3 := hf.ll
            have h4 := hf.r
            rcases List.mem_append.1 hG with hG | hG
            · have := ih G hG; omega
            · rw [List.mem_singleton] at hG; subst hG; omega
        have := key h1 G hG
        have := lt_of q1
        omega
      have hop := hops (by omega)
      refine .snoc (ih hlive) ⟨hf.b, hf.r, hf.pc, hf.cl, hf.ll, by simpa using h2, ?_, hf.kt, hf.nc, hop, hf.iv⟩ hh
      rw [hf.sg]
      congr 1
      · refine hidV_congr _ _ fun k hk => ?_
        rw [List.getElem?_set_ne (by omega)]
      · apply List.ext_getElem?
        intro j
        simp only [List.getElem?_drop, List.getElem?_take]
        rw [List.getElem?_set_ne (by omega)]
    · rw [List.mem_singleton] at hG
      subst hG
      have hs := lt_of q1
      have hop := hops (by omega)
      refine .snoc (h1.congr (by rw [List.take_set_of_le (by omega)]) (by simp; omega)) ⟨hf.b, hf.r, hf.pc, hf.cl, hf.ll, by simpa using h2, ?_, hf.kt, hf.nc, hop, hf.iv⟩ hh
      rw [hf.sg]
      congr 1
      · refine hidV_congr _ _ fun k hk => ?_
        have : k ≠ s := fun q => by subst q; rw [q1] at hk; injection hk with hk; exact q2 hk
        rw [List.getElem?_set_ne (by omega)]
      · apply List.ext_getElem?
        intro j
        simp only [List.getElem?_drop, List.getElem?_take]
        rw [List.getElem?_set_ne (by omega)]
theorem TRs.lens {aw : Nat} {fs : List Fr} {l : List FI} {Tk : List TkM} {W : List V} {e : Nat} (ht : TRs K es ρ m u S aw fs l Tk W e) : W.length ≤ e ∧ Tk.length ≤ l.length * (K.HB + 1) ∧ fs.length = l.length ∧ ∀ G, G ∈ l → G.B + G.L.length ≤ e := by
  induction ht with
  | nil => exact ⟨Nat.le_refl _, by simp, rfl, fun G hG => by cases hG⟩
  | @snoc aw fs l Tk W f F e seg h1 hf hh ih =>
    have h2 := hf.e1
    have h3 := hf.ll
    have h4 := hf.r
    obtain ⟨i1, i2, i3, i4⟩ := ih
    have h5 := hf.kt.small
    have h6 := hidN_le F.L
    refine ⟨?_, ?_, by simp [i3], fun G hG => ?_⟩
    · rw [List.length_append, hf.sg, List.length_append, hidV_len, List.length_drop, List.length_take]
      omega
    · rw [List.length_append, List.length_append, List.length_singleton, Nat.add_mul]
      omega
    · rcases List.mem_append.1 hG with hG | hG
      · have := i4 G hG; omega
      · rw [List.mem_singleton] at hG; subst hG; omega
theorem TRs.inv {aw : Nat} {fs : List Fr} {l : List FI} {Tk : List TkM} {W : List V} {e : Nat} {f : Fr} (ht : TRs K es ρ m u S aw (fs ++ [f]) l Tk W e) : ∃ l' F Tk' W' seg, l = l' ++ [F] ∧ Tk = F.T ++ Tk' ∧ W = W' ++ seg ∧ TRs K es ρ m u S 2 fs l' Tk' W' f.ret.toNat ∧ FrOk K es ρ m u S aw f F e seg ∧ F.h = W'.length := by
  generalize hg : fs ++ [f] = fs' at ht
  cases ht with
  | nil => simp at hg
  | @snoc aw2 fs2 l2 Tk2 W2 f2 F2 e2 seg2 h1 hf hh =>
    obtain ⟨e1, e2⟩ := List.append_inj' hg rfl
    injection e2 with e2 _
    subst e1 e2
    exact ⟨_, _, _, _, _, rfl, rfl, rfl, h1, hf, hh⟩
theorem TRs.inv0 {aw : Nat} {l : List FI} {Tk : List TkM} {W : List V} {e : Nat} (ht : TRs K es ρ m u S aw [] l Tk W e) : l = [] ∧ Tk = [] ∧ W = [] ∧ e = 0 := by
  generalize hg : ([] : List Fr) = fs' at ht
  cases ht with
  | nil => exact ⟨rfl, rfl, rfl, rfl⟩
  | snoc h1 hf hh => simp at hg
end
end Go.Sm
