/- Plain: package comp, the compiler. -/
import Derived.Test.Qxb6500573aGreatDoorWParse
namespace Go.Wl
open Go Go.Sl Go.Proofs
set_option linter.unusedVariables false
abbrev In := Int × Int
def insV (i : In) : List Value := [.int .u8 i.1, .int .u16 i.2]
theorem insV_len (i : In) : (insV i).length = 2 := rfl
def upV (d : Int × Int) : List Value := [.int .u8 d.1, .int .u8 d.2]
theorem upV_len (i : Int × Int) : (upV i).length = 2 := rfl
def u16V (i : Int) : Value := .int .u16 i
def u16 (i : Int) : Int := IntKind.u16.wrap i
def u8 (i : Int) : Int := IntKind.u8.wrap i
/-- A function's state. 'live': it has been taken out of the arena at least once. -/
structure Fs where
  live : Bool
  parent : Option Nat
  nparams : Int
  locals : List (List UInt8)
  nslots : Int
  ups : List (Int × Int)
  consts : List V
  nums : List (Int × Int)
  strs : List (List UInt8 × Int)
  code : List In
  loops : List (Int × List (Nat × Int))
def Fs.raw : Fs := ⟨false, none, 0, [], 0, [], [], [], [], [], []⟩
structure CS where
  np : Int
  fs : List Fs
def CS.get (s : CS) (k : Nat) : Option Fs := match s.fs[k]? with
  | some f => if f.live = true then some f else none
  | none => none
def CS.put (s : CS) (k : Nat) (f : Fs) : CS := { s with fs := s.fs.set k f }
theorem CS.get_some {s : CS} {k : Nat} {f : Fs} (h : s.get k = some f) : s.fs[k]? = some f ∧ f.live = true := by
  unfold CS.get at h
  split at h
  · rename_i g hg
    split at h
    · rename_i hl; cases h; exact ⟨hg, hl⟩
    · cases h
  · cases h
theorem CS.get_put {s : CS} {k : Nat} {f f' : Fs} (h : s.get k = some f) (hl : f'.live = true) : (s.put k f').get k = some f' := by
  have hk := (List.getElem?_eq_some_iff.1 (CS.get_some h).1).1
  unfold CS.get CS.put
  simp [hk, hl]
abbrev fp (fb x : Nat) : Value := .pointer (some ⟨fb, 0 + x * 11, none⟩)
def parV (fb : Nat) : Option Nat → Value
  | none => .pointer none
  | some p => fp fb p
abbrev patV (b2 b5 : Nat) : Value := .func (.func 257) #[] #[pt b2, pt b5]
/-- A patcher: the function's number and the jump's place. -/
def patR (fb : Nat) (a : Nat × Int) (c : List Value) (s : Seg) : Prop := ∃ b2 b5, c = [patV b2 b5] ∧ s = List.flatten [blk b2 87 [fp fb a.1], blk b5 3 [I a.2]]
theorem patR_len (fb : Nat) (a : Nat × Int) (c : List Value) (s : Seg) (h : patR fb a c s) : c.length = 1 := by obtain ⟨_, _, rfl, _⟩ := h; rfl
def loopR (fb : Nat) (l : Int × List (Nat × Int)) (c : List Value) (s : Seg) : Prop := ∃ ba bc vs sb sp, c = [I l.1, .slice ba l.2.length bc] ∧ s = List.flatten [sb, sp] ∧ Arr 1 1 ba l.2.length bc vs sb ∧ Rws (patR fb) l.2 vs sp
theorem loopR_len (fb : Nat) (l : Int × List (Nat × Int)) (c : List Value) (s : Seg) (h : loopR fb l c s) : c.length = 2 := by obtain ⟨_, _, _, _, _, rfl, _⟩ := h; rfl
/-- A function's cells and what hangs on them. -/
structure FH where
  la : Option Addr
  lc : Nat
  ua : Option Addr
  uc : Nat
  ka : Option Addr
  kc : Nat
  oa : Option Addr
  oc : Nat
  qa : Option Addr
  qc : Nat
  mn : Value
  ms : Value
  cv : Value
  pv : Value
  ls : Seg
  us : Seg
  ks : Seg
  sn : Seg
  ss : Seg
  os : Seg
  qs : Seg
  ql : Seg
abbrev FH.row (h : FH) (f : Fs) : List Value := [h.cv, h.pv, I f.nparams, .slice h.la f.locals.length h.lc, I f.nslots, .slice h.ua f.ups.length h.uc, .slice h.ka f.consts.length h.kc, h.mn, h.ms, .slice h.oa f.code.length h.oc, .slice h.qa f.loops.length h.qc]
abbrev FH.segs (h : FH) : Seg := List.flatten [h.ls, h.us, h.ks, h.sn, h.ss, h.os, h.qs, h.ql]
structure FRow (cb fb : Nat) (f : Fs) (h : FH) : Prop where
  lo : Arr 9 1 h.la f.locals.length h.lc (f.locals.map S) h.ls
  up : Arr 159 2 h.ua f.ups.length h.uc (f.ups.flatMap upV) h.us
  co : Arr 42 3 h.ka f.consts.length h.kc (f.consts.flatMap valV) h.ks
  cd : Arr 99 2 h.oa f.code.length h.oc (f.code.flatMap insV) h.os
  lp : ∃ lcs, Arr 163 2 h.qa f.loops.length h.qc lcs h.qs ∧ Rws (loopR fb) f.loops lcs h.ql
  lv : f.live = true → h.cv = pt cb ∧ h.pv = parV fb f.parent ∧ ∃ bn bs, h.mn = .map (some bn) ∧ h.ms = .map (some bs) ∧ isMap u64K u16V bn f.nums h.sn ∧ isMap S u16V bs f.strs h.ss
def fnR (cb fb : Nat) (f : Fs) (c : List Value) (s : Seg) : Prop := ∃ h : FH, c = h.row f ∧ s = h.segs ∧ FRow cb fb f h
theorem fnR_len (cb fb : Nat) (f : Fs) (c : List Value) (s : Seg) (h : fnR cb fb f c s) : c.length = 11 := by obtain ⟨_, rfl, _⟩ := h; rfl
/-- What stands still while a text is compiled. -/
structure CX where
  cb : Nat
  fb : Nat
  tn : Nat
  ns : List Nd
  pv : Value
  dv : Value
  bv : Value
abbrev CX.head (x : CX) (np : Int) : Seg := blk x.cb 69 [x.pv, x.dv, .slice (some ⟨x.tn, 0, none⟩) x.ns.length x.ns.length, .slice (some ⟨x.fb, 0, none⟩) 13 13, I np, x.bv]
abbrev CX.nodes (x : CX) : Seg := blk x.tn 158 (x.ns.flatMap ndV ++ [])
def isC (x : CX) (s : CS) (seg : Seg) : Prop := ∃ cs st, seg = List.flatten [x.head s.np, blk x.fb 96 cs, st, x.nodes] ∧ Rws (fnR x.cb x.fb) s.fs cs st ∧ s.fs.length = 13 ∧ (0 ≤ s.np ∧ s.np ≤ 1000) ∧ x.ns.length ≤ 1000000
theorem isC.open_ {x : CX} {s : CS} {seg : Seg} {k : Nat} {f : Fs} (hC : isC x s seg) (hf : s.get k = some f) :
    ∃ (h : FH) (bn bs : Nat) (c0 c2 : List Value) (s0 s2 : Seg), seg = List.flatten [x.head s.np, blk x.fb 96 (c0 ++ h.row f ++ c2), s0, h.segs, s2, x.nodes] ∧ c0.length = 0 + k * 11 ∧ FRow x.cb x.fb f h ∧ h.cv = pt x.cb ∧ h.pv = parV x.fb f.parent ∧ h.mn = .map (some bn) ∧ h.ms = .map (some bs) ∧ isMap u64K u16V bn f.nums h.sn ∧ isMap S u16V bs f.strs h.ss ∧
      (∀ (f' : Fs) (h' : FH), FRow x.cb x.fb f' h' → isC x (s.put k f') (List.flatten [x.head s.np, blk x.fb 96 (c0 ++ h'.row f' ++ c2), s0, h'.segs, s2, x.nodes])) := by
  obtain ⟨cs, st, rfl, hR, hl, hnp, hns⟩ := hC
  obtain ⟨hg, hlv⟩ := CS.get_some hf
  obtain ⟨hk, he⟩ := List.getElem?_eq_some_iff.1 hg
  obtain ⟨c0, ci, c2, s0, si, s2, rfl, rfl, h1, h2, h3, h4⟩ := hR.split (fnR_len _ _) hk
  rw [he] at h3
  obtain ⟨h, rfl, rfl, hF⟩ := h3
  obtain ⟨e1, e2, bn, bs, e3, e4, m1, m2⟩ := hF.lv hlv
  refine ⟨h, bn, bs, c0, c2, s0, s2, by simp, by omega, hF, e1, e2, e3, e4, m1, m2, fun f' h' hF' => ?_⟩
  refine ⟨c0 ++ h'.row f' ++ c2, List.flatten [s0, h'.segs, s2], by simp [CS.put], h4 f' _ _ ⟨h', rfl, rfl, hF'⟩, by simp [CS.put, hl], hnp, hns⟩
theorem isC.opn {x : CX} {s : CS} {seg : Seg} {k : Nat} {f : Fs} (hC : isC x s seg) (hf : s.get k = some f) :
    ∃ (la : Option Addr) (lc : Nat) (ua : Option Addr) (uc : Nat) (ka : Option Addr) (kc : Nat) (oa : Option Addr) (oc : Nat) (qa : Option Addr) (qc : Nat) (bn bs : Nat) (ls us ks sn ss os qs ql : Seg) (c0 c2 lcs : List Value) (s0 s2 : Seg),
      seg = List.flatten [x.head s.np, blk x.fb 96 (c0 ++ [pt x.cb, parV x.fb f.parent, I f.nparams, .slice la f.locals.length lc, I f.nslots, .slice ua f.ups.length uc, .slice ka f.consts.length kc, .map (some bn), .map (some bs), .slice oa f.code.length oc, .slice qa f.loops.length qc] ++ c2), s0, ls, us, ks, sn, ss, os, qs, ql, s2, x.nodes] ∧ c0.length = 0 + k * 11 ∧
      Arr 9 1 la f.locals.length lc (f.locals.map S) ls ∧ Arr 159 2 ua f.ups.length uc (f.ups.flatMap upV) us ∧ Arr 42 3 ka f.consts.length kc (f.consts.flatMap valV) ks ∧ Arr 99 2 oa f.code.length oc (f.code.flatMap insV) os ∧ Arr 163 2 qa f.loops.length qc lcs qs ∧ Rws (loopR x.fb) f.loops lcs ql ∧ isMap u64K u16V bn f.nums sn ∧ isMap S u16V bs f.strs ss ∧
      (∀ (f' : Fs) (la : Option Addr) (lc : Nat) (ua : Option Addr) (uc : Nat) (ka : Option Addr) (kc : Nat) (oa : Option Addr) (oc : Nat) (qa : Option Addr) (qc : Nat) (bn bs : Nat) (ls us ks sn ss os qs ql : Seg) (lcs : List Value), f'.parent = f.parent →
        Arr 9 1 la f'.locals.length lc (f'.locals.map S) ls → Arr 159 2 ua f'.ups.length uc (f'.ups.flatMap upV) us → Arr 42 3 ka f'.consts.length kc (f'.consts.flatMap valV) ks → Arr 99 2 oa f'.code.length oc (f'.code.flatMap insV) os → Arr 163 2 qa f'.loops.length qc lcs qs → Rws (loopR x.fb) f'.loops lcs ql → isMap u64K u16V bn f'.nums sn → isMap S u16V bs f'.strs ss →
        isC x (s.put k f') (List.flatten [x.head s.np, blk x.fb 96 (c0 ++ [pt x.cb, parV x.fb f.parent, I f'.nparams, .slice la f'.locals.length lc, I f'.nslots, .slice ua f'.ups.length uc, .slice ka f'.consts.length kc, .map (some bn), .map (some bs), .slice oa f'.code.length oc, .slice qa f'.loops.length qc] ++ c2), s0, ls, us, ks, sn, ss, os, qs, ql, s2, x.nodes])) := by
  obtain ⟨h, bn, bs, c0, c2, s0, s2, rfl, hp, hF, e1, e2, e3, e4, m1, m2, hput⟩ := hC.open_ hf
  obtain ⟨la, lc, ua, uc, ka, kc, oa, oc, qa, qc, mn, ms, cv, pv, ls, us, ks, sn, ss, os, qs, ql⟩ := h
  dsimp only at e1 e2 e3 e4 m1 m2
  subst e1 e2 e3 e4
  obtain ⟨h1, h2, h3, h4, ⟨lcs, h5, h6⟩, h7⟩ := hF
  refine ⟨la, lc, ua, uc, ka, kc, oa, oc, qa, qc, bn, bs, ls, us, ks, sn, ss, os, qs, ql, c0, c2, lcs, s0, s2, by simp, hp, h1, h2, h3, h4, h5, h6, m1, m2, ?_⟩
  intro f' la lc ua uc ka kc oa oc qa qc bn bs ls us ks sn ss os qs ql lcs hpar k1 k2 k3 k4 k5 k6 k7 k8
  have := hput f' ⟨la, lc, ua, uc, ka, kc, oa, oc, qa, qc, .map (some bn), .map (some bs), pt x.cb, parV x.fb f.parent, ls, us, ks, sn, ss, os, qs, ql⟩ ⟨k1, k2, k3, k4, ⟨lcs, k5, k6⟩, fun _ => ⟨rfl, by rw [hpar], bn, bs, rfl, rfl, k7, k8⟩⟩
  simpa using this
theorem isC.opnF {x : CX} {s : CS} {seg : Seg} {k : Nat} {f : Fs} (hC : isC x s seg) (hf : s.fs[k]? = some f) :
    ∃ (cv pv mn ms : Value) (la : Option Addr) (lc : Nat) (ua : Option Addr) (uc : Nat) (ka : Option Addr) (kc : Nat) (oa : Option Addr) (oc : Nat) (qa : Option Addr) (qc : Nat) (ls us ks sn ss os qs ql : Seg) (c0 c2 lcs : List Value) (s0 s2 : Seg),
      seg = List.flatten [x.head s.np, blk x.fb 96 (c0 ++ [cv, pv, I f.nparams, .slice la f.locals.length lc, I f.nslots, .slice ua f.ups.length uc, .slice ka f.consts.length kc, mn, ms, .slice oa f.code.length oc, .slice qa f.loops.length qc] ++ c2), s0, ls, us, ks, sn, ss, os, qs, ql, s2, x.nodes] ∧ c0.length = 0 + k * 11 ∧
      Arr 9 1 la f.locals.length lc (f.locals.map S) ls ∧ Arr 159 2 ua f.ups.length uc (f.ups.flatMap upV) us ∧ Arr 42 3 ka f.consts.length kc (f.consts.flatMap valV) ks ∧ Arr 99 2 oa f.code.length oc (f.code.flatMap insV) os ∧ Arr 163 2 qa f.loops.length qc lcs qs ∧
      (∀ (np : Int) (p : Option Nat) (la : Option Addr) (lc : Nat) (ua : Option Addr) (uc : Nat) (ka : Option Addr) (kc : Nat) (oa : Option Addr) (oc : Nat) (qa : Option Addr) (qc : Nat) (bn bs : Nat) (ls us ks sn ss os qs : Seg), 0 ≤ np ∧ np ≤ 1000 →
        Arr 9 1 la 0 lc [] ls → Arr 159 2 ua 0 uc [] us → Arr 42 3 ka 0 kc [] ks → Arr 99 2 oa 0 oc [] os → Arr 163 2 qa 0 qc [] qs → isMap (β := Int) u64K u16V bn [] sn → isMap (β := Int) S u16V bs [] ss →
        isC x ⟨np, s.fs.set k ⟨true, p, 0, [], 0, [], [], [], [], [], []⟩⟩ (List.flatten [x.head np, blk x.fb 96 (c0 ++ [pt x.cb, parV x.fb p, I 0, .slice la 0 lc, I 0, .slice ua 0 uc, .slice ka 0 kc, .map (some bn), .map (some bs), .slice oa 0 oc, .slice qa 0 qc] ++ c2), s0, ls, us, ks, sn, ss, os, qs, [], s2, x.nodes])) := by
  obtain ⟨cs, st, rfl, hR, hl, hnp, hns⟩ := hC
  obtain ⟨hk, he⟩ := List.getElem?_eq_some_iff.1 hf
  obtain ⟨c0, ci, c2, s0, si, s2, rfl, rfl, h1, h2, h3, h4⟩ := hR.split (fnR_len _ _) hk
  rw [he] at h3
  obtain ⟨h, rfl, rfl, hF⟩ := h3
  obtain ⟨la, lc, ua, uc, ka, kc, oa, oc, qa, qc, mn, ms, cv, pv, ls, us, ks, sn, ss, os, qs, ql⟩ := h
  obtain ⟨g1, g2, g3, g4, ⟨lcs, g5, g6⟩, g7⟩ := hF
  refine ⟨cv, pv, mn, ms, la, lc, ua, uc, ka, kc, oa, oc, qa, qc, ls, us, ks, sn, ss, os, qs, ql, c0, c2, lcs, s0, s2, by simp, by omega, g1, g2, g3, g4, g5, ?_⟩
  intro np p la lc ua uc ka kc oa oc qa qc bn bs ls us ks sn ss os qs hnp k1 k2 k3 k4 k5 k7 k8
  have h5 := h4 ⟨true, p, 0, [], 0, [], [], [], [], [], []⟩ _ _ ⟨⟨la, lc, ua, uc, ka, kc, oa, oc, qa, qc, .map (some bn), .map (some bs), pt x.cb, parV x.fb p, ls, us, ks, sn, ss, os, qs, []⟩, rfl, rfl, ⟨k1, k2, k3, k4, ⟨[], k5, Rws.nil⟩, fun _ => ⟨rfl, rfl, bn, bs, rfl, rfl, k7, k8⟩⟩⟩
  refine ⟨_, _, ?_, h5, by simp [hl], hnp, hns⟩
  simp
theorem isC.row_ {x : CX} {s : CS} {seg : Seg} {k : Nat} {f : Fs} (hC : isC x s seg) (hf : s.get k = some f) {q : Nat} (hq : q < 11) :
    ∃ h : FH, FRow x.cb x.fb f h ∧ ∀ (H : Hp) (v : Value), (h.row f)[q]? = some v → Cell (seg :: H) x.fb (0 + k * 11 + q) v := by
  obtain ⟨h, bn, bs, c0, c2, s0, s2, rfl, hp, hF, _⟩ := hC.open_ hf
  refine ⟨h, hF, fun H v hv => ?_⟩
  obtain ⟨c, T, fz, h1, h2⟩ := Cell.amid (b := x.fb) (T := 96) (cs := h.row f) (post := c2) (H := []) hp hv
  refine ⟨c, T, fz, ?_, h2⟩
  have h3 : (x.fb, Obj.cells c T fz) ∈ blk x.fb 96 (c0 ++ h.row f ++ c2) := by simpa [Has] using h1
  exact List.mem_flatten.2 ⟨_, List.mem_cons_self, List.mem_flatten.2 ⟨_, List.mem_cons_of_mem _ (List.mem_cons_self), h3⟩⟩
theorem isC.c {x : CX} {s : CS} {seg : Seg} {k : Nat} {f : Fs} (hC : isC x s seg) (hf : s.get k = some f) {H : Hp} : Cell (seg :: H) x.fb (0 + k * 11 + 0) (pt x.cb) := by
  obtain ⟨h, hF, hh⟩ := hC.row_ hf (q := 0) (by omega)
  refine hh H _ ?_
  obtain ⟨e1, _⟩ := hF.lv (CS.get_some hf).2
  simp [e1]
theorem isC.par {x : CX} {s : CS} {seg : Seg} {k : Nat} {f : Fs} (hC : isC x s seg) (hf : s.get k = some f) {H : Hp} : Cell (seg :: H) x.fb (0 + k * 11 + 1) (parV x.fb f.parent) := by
  obtain ⟨h, hF, hh⟩ := hC.row_ hf (q := 1) (by omega)
  refine hh H _ ?_
  obtain ⟨_, e1, _⟩ := hF.lv (CS.get_some hf).2
  simp [e1]
theorem isC.locs {x : CX} {s : CS} {seg : Seg} {k : Nat} {f : Fs} (hC : isC x s seg) (hf : s.get k = some f) : ∃ la lc, ∀ H : Hp, Cell (seg :: H) x.fb (0 + k * 11 + 3) (.slice la f.locals.length lc) := by
  obtain ⟨h, hF, hh⟩ := hC.row_ hf (q := 3) (by omega)
  exact ⟨_, _, fun H => hh H _ rfl⟩
theorem isC.cod {x : CX} {s : CS} {seg : Seg} {k : Nat} {f : Fs} (hC : isC x s seg) (hf : s.get k = some f) : ∃ la lc, ∀ H : Hp, Cell (seg :: H) x.fb (0 + k * 11 + 9) (.slice la f.code.length lc) := by
  obtain ⟨h, hF, hh⟩ := hC.row_ hf (q := 9) (by omega)
  exact ⟨_, _, fun H => hh H _ rfl⟩
theorem isC.nds {x : CX} {s : CS} {seg : Seg} (hC : isC x s seg) {H : Hp} : Cell (seg :: H) x.cb (0 + 2) (.slice (some ⟨x.tn, 0, none⟩) x.ns.length x.ns.length) := by
  obtain ⟨cs, st, rfl, _⟩ := hC
  refine ⟨[x.pv, x.dv, .slice (some ⟨x.tn, 0, none⟩) x.ns.length x.ns.length, .slice (some ⟨x.fb, 0, none⟩) 13 13, I s.np, x.bv].toArray, 69, (0, 0), ?_, rfl⟩
  exact List.mem_flatten.2 ⟨_, List.mem_cons_self, List.mem_flatten.2 ⟨_, List.mem_cons_self, List.mem_cons_self⟩⟩
def nd (ns : List Nd) (i : Int) : Option Nd := if 0 ≤ i then ns[i.toNat]? else none
theorem nd_some {ns : List Nd} {i : Int} {d : Nd} (h : nd ns i = some d) : (0 ≤ i ∧ i < ns.length) ∧ i = (i.toNat : Nat) ∧ ∃ hi : i.toNat < ns.length, ns[i.toNat] = d := by
  unfold nd at h
  split at h
  · obtain ⟨h1, h2⟩ := List.getElem?_eq_some_iff.1 h
    exact ⟨⟨by omega, by omega⟩, by omega, h1, h2⟩
  · cases h
theorem isC.node {x : CX} {s : CS} {seg : Seg} (hC : isC x s seg) {i : Int} {d : Nd} (hd : nd x.ns i = some d) {H : Hp} : Cells (seg :: H) x.tn (0 + i.toNat * 8) (ndV d) := by
  obtain ⟨cs, st, rfl, _⟩ := hC
  obtain ⟨_, h1, h2, h3⟩ := nd_some hd
  obtain ⟨c, T, fz, k1, k2⟩ := flat_cellsE (b := x.tn) (T := 158) (sp := []) (H := []) ndV_len h1 h2 h3
  refine ⟨c, T, fz, ?_, k2⟩
  have k3 : (x.tn, Obj.cells c T fz) ∈ x.nodes := by simpa [Has, CX.nodes] using k1
  exact List.mem_flatten.2 ⟨_, List.mem_cons_self, List.mem_flatten.2 ⟨_, List.mem_cons_of_mem _ (List.mem_cons_of_mem _ (List.mem_cons_of_mem _ (List.mem_cons_self))), k3⟩⟩
theorem isC.nodeF {x : CX} {s : CS} {seg : Seg} (hC : isC x s seg) {i : Int} {d : Nd} (hd : nd x.ns i = some d) {H : Hp} {q : Nat} {v : Value} (hv : (ndV d)[q]? = some v) : Cell (seg :: H) x.tn (0 + i.toNat * 8 + q) v :=
  (hC.node hd).cell hv
/-! The functions. -/
def emitM (k : Nat) (l : List In) (s : CS) : Option CS := bind1 (s.get k) fun f => if f.code.length + l.length ≤ 1000000 then some (s.put k { f with code := f.code ++ l }) else none
def declareM (k : Nat) (name : List UInt8) (s : CS) : Option (Int × CS) := bind1 (s.get k) fun f => if f.locals.length < 1000000 then some ((f.locals.length : Int), s.put k { f with locals := f.locals ++ [name], nslots := max f.nslots ((f.locals.length : Int) + 1) }) else none
def bindM (k : Nat) (name : List UInt8) (s : CS) : Option CS := bind2 (declareM k name s) fun i s => emitM k [(6, u16 i)] s
def cutM (k : Nat) (base : Int) (s : CS) : Option CS := bind1 (s.get k) fun f => if 0 ≤ base ∧ base ≤ f.locals.length then some (s.put k { f with locals := f.locals.take base.toNat }) else none
def leaveM (k : Nat) (base : Int) (s : CS) : Option CS := bind1 (s.get k) fun f => if base < f.locals.length then bind1 (emitM k [(29, u16 base)] s) fun s => cutM k base s else some s
def slotAt (l : List (List UInt8)) (name : List UInt8) : Nat → Int
  | 0 => -1
  | i + 1 => if l.getD i [] = name then i else slotAt l name i
def slotM (k : Nat) (name : List UInt8) (s : CS) : Option Int := bind1 (s.get k) fun f => if f.locals.length < 1000000 then some (slotAt f.locals name f.locals.length) else none
def upFind (l : List (Int × Int)) (d : Int × Int) (i : Nat) : Option Nat := match l with
  | [] => none
  | e :: l => if e = d then some i else upFind l d (i + 1)
def upAdd (k : Nat) (d : Int × Int) (f : Fs) (s : CS) : Option Nat → Int × CS
  | some i => ((i : Int), s)
  | none => ((f.ups.length : Int), s.put k { f with ups := f.ups ++ [d] })
def upPut (k : Nat) (d : Int × Int) (s : CS) : Option (Int × CS) := bind1 (s.get k) fun f => if f.ups.length < 1000000 then some (upAdd k d f s (upFind f.ups d 0)) else none
def upvalueM : Nat → Nat → List UInt8 → CS → Option (Int × CS)
  | 0, _, _, _ => none
  | m + 1, k, name, s => bind1 (s.get k) fun f => match f.parent with
    | none => some (-1, s)
    | some p => bind1 (slotM p name s) fun i => if i < 0 then bind2 (upvalueM m p name s) fun u s => (if u < 0 then some (-1, s) else upPut k (0, u8 u) s) else upPut k (1, u8 i) s
def cnumM (k : Nat) (bits : Int) (s : CS) : Option (Int × CS) := bind1 (s.get k) fun f => match mfind f.nums bits with
  | some i => some (i, s)
  | none => if f.consts.length < 1000000 then some (u16 f.consts.length, s.put k { f with nums := f.nums ++ [(bits, u16 f.consts.length)], consts := f.consts ++ [⟨2, bits, []⟩] }) else none
def ctextM (k : Nat) (t : List UInt8) (s : CS) : Option (Int × CS) := bind1 (s.get k) fun f => match mfind f.strs t with
  | some i => some (i, s)
  | none => if f.consts.length < 1000000 then some (u16 f.consts.length, s.put k { f with strs := f.strs ++ [(t, u16 f.consts.length)], consts := f.consts ++ [⟨3, 0, t⟩] }) else none
def variableM (k : Nat) (name : List UInt8) (a b c : Int) (s : CS) : Option CS := bind1 (slotM k name s) fun i => if 0 ≤ i then emitM k [(a, u16 i)] s
  else bind2 (upvalueM 14 k name s) fun u s => if 0 ≤ u then emitM k [(b, u16 u)] s else bind2 (ctextM k name s) fun i s => emitM k [(c, i)] s
def jumpM (k : Nat) (op : Int) (s : CS) : Option (Int × CS) := bind1 (s.get k) fun f => bind1 (emitM k [(op, 65535)] s) fun s => some ((f.code.length : Int), s)
def patchM (k : Nat) (at_ : Int) (s : CS) : Option CS := bind1 (s.get k) fun f => if 0 ≤ at_ ∧ at_ < f.code.length then some (s.put k { f with code := f.code.set at_.toNat ((f.code.getD at_.toNat (0, 0)).1, u16 f.code.length) }) else none
def openM (k : Nat) (base : Int) (s : CS) : Option CS := bind1 (s.get k) fun f => if f.loops.length < 1000000 then some (s.put k { f with loops := f.loops ++ [(base, [])] }) else none
def patchesM : List (Nat × Int) → CS → Option CS
  | [], s => some s
  | (k, a) :: l, s => bind1 (patchM k a s) fun s => patchesM l s
def shutM (k : Nat) (s : CS) : Option CS := bind1 (s.get k) fun f => bind1 f.loops[f.loops.length - 1]? fun l => if l.2.length < 1000000 ∧ f.loops.length < 1000000 then patchesM l.2 (s.put k { f with loops := f.loops.take (f.loops.length - 1) }) else none
def freshM (k : Nat) (p : Option Nat) (s : CS) : Option CS := bind1 s.fs[k]? fun f => some ⟨max s.np ((k : Int) + 1), s.fs.set k ⟨true, p, 0, [], 0, [], [], [], [], [], []⟩⟩
section
variable {σ : Type} (ns : List Nd) (al : σ → Bool) (vis : Int → σ → Option σ)
def eachM : Nat → Int → Int → σ → Option (Int × σ)
  | 0, _, _, _ => none
  | m + 1, n, j, s => if n = 0 then some (j, s) else bind1 (vis n s) fun s => if al s = true then bind1 (nd ns n) fun d => eachM m d.next (j + 1) s else none
end
structure CRec where
  stmt : Nat → Int → CS → Option CS
  expr : Nat → Int → CS → Option CS
def binaryM (op : Int) : In := if op = 20 then (17, 0) else if 10 < op then (16, u16 (IntKind.u64.wrap (op - 10))) else (15, u16 op)
def unaryM (op : Int) : In := if op = 1 then (19, 0) else if op = 2 then (18, 0) else (20, 0)
section
variable (ns : List Nd) (rc : CRec)
def aliveC (k : Nat) (s : CS) : Bool := (s.get k).isSome
def blockM (k : Nat) (first : Int) (s : CS) : Option CS := bind1 (s.get k) fun f => bind2 (eachM ns (aliveC k) (rc.stmt k) (ns.length + 1) first 0 s) fun _ s => leaveM k f.locals.length s
def bodyM (k : Nat) (first : Int) (s : CS) : Option CS := bind1 (blockM ns rc k first s) fun s => emitM k [(2, 0), (2, 0), (27, 0)] s
def paramM (k : Nat) (n : Int) (s : CS) : Option CS := bind1 (s.get k) fun _ => bind1 (nd ns n) fun d => bind2 (declareM k d.s s) fun _ s => some s
def parsM (k : Nat) (j : Int) (s : CS) : Option CS := bind1 (s.get k) fun f => some (s.put k { f with nparams := j })
def functionM (k : Nat) (d : Nd) (s : CS) : Option CS := bind1 (s.get k) fun _ =>
  if 0 ≤ IntKind.i64.wrap d.n ∧ IntKind.i64.wrap d.n < 13 then
    bind1 (freshM (IntKind.i64.wrap d.n).toNat (some k) s) fun s => bind2 (eachM ns (aliveC (IntKind.i64.wrap d.n).toNat) (paramM ns (IntKind.i64.wrap d.n).toNat) (ns.length + 1) d.a 0 s) fun j s =>
      bind1 (parsM (IntKind.i64.wrap d.n).toNat j s) fun s => bind1 (bodyM ns rc (IntKind.i64.wrap d.n).toNat d.b s) fun s => emitM k [(28, u16 d.n)] s
  else none
def callM (k : Nat) (n : Int) (s : CS) : Option CS := bind1 (s.get k) fun _ => bind1 (nd ns n) fun d => bind1 (rc.expr k d.a s) fun s => bind2 (eachM ns (aliveC k) (rc.expr k) (ns.length + 1) d.b 0 s) fun j s => emitM k [(26, u16 j)] s
def itemM (k : Nat) (n : Int) (s : Int × CS) : Option (Int × CS) := bind1 (rc.expr k n s.2) fun s1 => bind1 (emitM k [(13, u16 (s.1 + 1))] s1) fun s2 => some (u16 (s.1 + 1), s2)
def shortM (k : Nat) (op : Int) (b : Int) (s : CS) : Option CS := bind2 (jumpM k op s) fun a s => bind1 (rc.expr k b s) fun s => patchM k a s
def exprM (k : Nat) (n : Int) (s : CS) : Option CS := bind1 (s.get k) fun _ => bind1 (nd ns n) fun d =>
  if d.k = 0 then emitM k [(2, 0)] s
  else if d.k = 12 then emitM k [(2, 0)] s
  else if d.k = 13 then emitM k [(3, 0)] s
  else if d.k = 14 then emitM k [(4, 0)] s
  else if d.k = 15 then bind2 (cnumM k d.n s) fun i s => emitM k [(1, i)] s
  else if d.k = 16 then bind2 (ctextM k d.s s) fun i s => emitM k [(1, i)] s
  else if d.k = 17 then variableM k d.s 5 7 9 s
  else if d.k = 18 then bind1 (rc.expr k d.a s) fun s => bind1 (rc.expr k d.b s) fun s => emitM k [(11, 0)] s
  else if d.k = 19 then bind1 (callM ns rc k n s) fun s => emitM k [(25, 0)] s
  else if d.k = 20 then functionM ns rc k d s
  else if d.k = 21 then bind1 (emitM k [(14, 0)] s) fun s => bind2 (eachM ns (fun s : Int × CS => aliveC k s.2) (itemM rc k) (ns.length + 1) d.a 0 (0, s)) fun _ s => some s.2
  else if d.k = 22 then bind1 (rc.expr k d.a s) fun s => bind1 (rc.expr k d.b s) fun s => emitM k [binaryM d.n] s
  else if d.k = 23 then bind1 (rc.expr k d.a s) fun s => emitM k [unaryM d.n] s
  else if d.k = 24 then bind1 (rc.expr k d.a s) fun s => shortM rc k 23 d.b s
  else if d.k = 25 then bind1 (rc.expr k d.a s) fun s => shortM rc k 24 d.b s
  else some s
def assignM (k : Nat) (d : Nd) (s : CS) : Option CS := bind1 (s.get k) fun _ => bind1 (nd ns d.a) fun g =>
  if g.k = 17 then bind1 (rc.expr k d.b s) fun s => variableM k g.s 6 8 10 s
  else bind1 (rc.expr k g.a s) fun s => bind1 (rc.expr k g.b s) fun s => bind1 (rc.expr k d.b s) fun s => emitM k [(12, 0)] s
def testM (k : Nat) (d : Nd) (s : CS) : Option CS := bind1 (rc.expr k d.a s) fun s => bind2 (jumpM k 22 s) fun a s => bind1 (blockM ns rc k d.b s) fun s => bind2 (jumpM k 21 s) fun b s => bind1 (patchM k a s) fun s => bind1 (blockM ns rc k d.c s) fun s => patchM k b s
def whileM (k : Nat) (d : Nd) (s : CS) : Option CS := bind1 (s.get k) fun f => bind1 (rc.expr k d.a s) fun s => bind2 (jumpM k 22 s) fun a s => bind1 (s.get k) fun g => bind1 (openM k g.locals.length s) fun s => bind1 (blockM ns rc k d.b s) fun s =>
  bind1 (emitM k [(21, u16 f.code.length)] s) fun s => bind1 (patchM k a s) fun s => shutM k s
def stepM (k : Nat) (step : Int) (s : CS) : Option CS := if step ≠ 0 then rc.expr k step s else bind2 (cnumM k 4607182418800017408 s) fun i s => emitM k [(1, i)] s
def roundM (k : Nat) (base : Nat) (d : Nd) (s : CS) : Option CS := bind1 (bindM k [] s) fun s => bind1 (emitM k [(30, u16 base)] s) fun s => bind1 (s.get k) fun g => bind1 (emitM k [(31, u16 base)] s) fun s => bind2 (jumpM k 22 s) fun a s => bind1 (openM k base s) fun s =>
  bind1 (emitM k [(5, u16 base)] s) fun s => bind1 (bindM k d.s s) fun s => bind1 (blockM ns rc k d.b s) fun s => bind1 (leaveM k ((base : Int) + 3) s) fun s =>
  bind1 (emitM k [(5, u16 base), (5, u16 (u16 base + 2)), (15, 1), (6, u16 base), (21, u16 g.code.length)] s) fun s => bind1 (patchM k a s) fun s => bind1 (shutM k s) fun s => leaveM k base s
def countM (k : Nat) (d : Nd) (s : CS) : Option CS := bind1 (s.get k) fun f => if f.locals.length < 1000000 then bind1 (nd ns d.a) fun da => bind1 (nd ns da.next) fun dl =>
    bind1 (rc.expr k d.a s) fun s => bind1 (bindM k [] s) fun s => bind1 (rc.expr k da.next s) fun s => bind1 (bindM k [] s) fun s => bind1 (stepM rc k dl.next s) fun s => roundM ns rc k f.locals.length d s
  else none
def walkM (k : Nat) (d : Nd) (s : CS) : Option CS := bind1 (s.get k) fun f => if f.locals.length < 1000000 then bind1 (nd ns d.a) fun dk => bind1 (nd ns dk.next) fun dv =>
    bind1 (rc.expr k d.b s) fun s => bind1 (bindM k [] s) fun s => bind1 (emitM k [(2, 0)] s) fun s => bind1 (bindM k [] s) fun s => bind1 (s.get k) fun g => bind1 (emitM k [(32, u16 f.locals.length)] s) fun s => bind2 (jumpM k 22 s) fun a s =>
    bind1 (openM k f.locals.length s) fun s => bind2 (declareM k dk.s s) fun _ s => bind2 (declareM k dv.s s) fun _ s => bind1 (blockM ns rc k d.c s) fun s => bind1 (leaveM k ((f.locals.length : Int) + 2) s) fun s =>
    bind1 (emitM k [(21, u16 g.code.length)] s) fun s => bind1 (patchM k a s) fun s => bind1 (shutM k s) fun s => leaveM k f.locals.length s
  else none
def brkC (f : Fs) (l : Int × List (Nat × Int)) : List In := if l.1 < f.locals.length then f.code ++ [(29, u16 l.1)] else f.code
def brkM (k : Nat) (s : CS) : Option CS := bind1 (s.get k) fun f => bind1 f.loops[f.loops.length - 1]? fun l => if (brkC f l).length + 1 ≤ 1000000 ∧ l.2.length < 1000000 ∧ f.loops.length < 1000000 then
  some (s.put k { f with code := brkC f l ++ [(21, 65535)], loops := f.loops.take (f.loops.length - 1) ++ [(l.1, l.2 ++ [(k, ((brkC f l).length : Int))])] }) else none
def stmtM (k : Nat) (n : Int) (s : CS) : Option CS := bind1 (s.get k) fun _ => bind1 (nd ns n) fun d =>
  if d.k = 1 then bind1 (rc.expr k d.a s) fun s => bindM k d.s s
  else if d.k = 2 then bind1 (nd ns d.a) fun a => bind1 (nd ns a.next) fun b => bind1 (callM ns rc k d.b s) fun s => bind2 (declareM k a.s s) fun i s => bind1 (bindM k b.s s) fun s => emitM k [(6, u16 i)] s
  else if d.k = 3 then bind2 (declareM k d.s s) fun i s => bind1 (rc.expr k d.a s) fun s => emitM k [(6, u16 i)] s
  else if d.k = 4 then assignM ns rc k d s
  else if d.k = 5 then bind1 (callM ns rc k d.a s) fun s => emitM k [(25, 0), (25, 0)] s
  else if d.k = 6 then testM ns rc k d s
  else if d.k = 7 then whileM ns rc k d s
  else if d.k = 8 then countM ns rc k d s
  else if d.k = 9 then walkM ns rc k d s
  else if d.k = 10 then bind1 (rc.expr k d.a s) fun s => bind1 (rc.expr k d.b s) fun s => emitM k [(27, 0)] s
  else if d.k = 11 then brkM k s
  else some s
end
def recC (ns : List Nd) : Nat → CRec
  | 0 => ⟨fun _ _ _ => none, fun _ _ _ => none⟩
  | m + 1 => ⟨stmtM ns (recC ns m), exprM ns (recC ns m)⟩
end Go.Wl
