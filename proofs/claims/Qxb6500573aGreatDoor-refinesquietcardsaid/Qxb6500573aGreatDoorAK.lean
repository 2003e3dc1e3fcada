/- Plain: package vm, the machine's state. -/
import Derived.Test.Qxb6500573aGreatDoorWImg
namespace Go.Wl
open Go Go.Sl Go.Proofs
set_option linter.unusedVariables false
structure Pr where
  nparams : Int
  nslots : Int
  up : Int
  nup : Int
  k : Int
  nk : Int
  code : Int
  ncode : Int
def prV (p : Pr) : List Value := [I p.nparams, I p.nslots, I p.up, I p.nup, I p.k, I p.nk, I p.code, I p.ncode]
theorem prV_len (p : Pr) : (prV p).length = 8 := rfl
structure Cl where
  p : Int
  up : Int
  nup : Int
def clV (c : Cl) : List Value := [I c.p, I c.up, I c.nup]
theorem clV_len (c : Cl) : (clV c).length = 3 := rfl
structure Ce where
  th : Int
  at_ : Int
  v : V
def ceV (c : Ce) : List Value := [I c.th, I c.at_, I c.v.t, .int .u64 c.v.n, S c.v.s]
theorem ceV_len (c : Ce) : (ceV c).length = 5 := rfl
structure Fr where
  clo : Int
  pc : Int
  base : Int
  ret : Int
  prot : Bool
def frV (f : Fr) : List Value := [I f.clo, I f.pc, I f.base, I f.ret, .bool f.prot]
theorem frV_len (f : Fr) : (frV f).length = 5 := rfl
structure Th where
  st : Int
  fn : Int
  stack : List V
  frames : List Fr
  opn : List Int
structure Pg where
  protos : List Pr
  descs : List (Int × Int)
  consts : List V
  code : List In
structure VS where
  clos : List Cl
  upix : List Int
  cells : List Ce
  threads : List Th
  fuel : Int
  out : List UInt8
  tabs : List Tb
structure VM where
  pg : Pg
  vs : VS
  ended : Int
/-- Where the thread's stack and its frames lie. -/
structure TH where
  sa : Option Addr
  sc : Nat
  fa : Option Addr
  fc : Nat
structure PH where
  pa : Option Addr
  pc : Nat
  da : Option Addr
  dc : Nat
  ka : Option Addr
  kc : Nat
  ca : Option Addr
  cc : Nat
structure VB where
  vb : Nat
  nb : Nat
  tb : Nat
  thb : Nat
abbrev thV (t : Th) (h : TH) (oa : Option Addr) (oc : Nat) : List Value := [I t.st, I t.fn, .slice h.sa t.stack.length h.sc, .slice h.fa t.frames.length h.fc, .slice oa t.opn.length oc]
def thR (p : Th × TH) (c : List Value) (s : Seg) : Prop := ∃ oa oc ss sf so, c = thV p.1 p.2 oa oc ∧ s = List.flatten [ss, sf, so] ∧ Arr 42 3 p.2.sa p.1.stack.length p.2.sc (p.1.stack.flatMap valV) ss ∧ Arr 331 5 p.2.fa p.1.frames.length p.2.fc (p.1.frames.flatMap frV) sf ∧ Arr 3 1 oa p.1.opn.length oc (p.1.opn.map I) so
theorem thR_len (p : Th × TH) (c : List Value) (s : Seg) (h : thR p c s) : c.length = 5 := by obtain ⟨_, _, _, _, _, rfl, _⟩ := h; rfl
structure VHs where
  la : Option Addr
  lc : Nat
  ua : Option Addr
  uc : Nat
  ea : Option Addr
  ec : Nat
  oa : Option Addr
  oc : Nat
  sp : Seg
  sd : Seg
  sk : Seg
  sc : Seg
  sl : Seg
  su : Seg
  se : Seg
  cs : List Value
  st : Seg
  so : Seg
  stb : Seg
  sq : Seg
abbrev vhead (b : VB) (ph : PH) (m : VM) (h : VHs) : Seg := blk b.vb 115 [pt b.nb, pt b.tb, .slice ph.pa m.pg.protos.length ph.pc, .slice ph.da m.pg.descs.length ph.dc, .slice ph.ka m.pg.consts.length ph.kc, .slice ph.ca m.pg.code.length ph.cc, .slice h.la m.vs.clos.length h.lc, .slice h.ua m.vs.upix.length h.uc, .slice h.ea m.vs.cells.length h.ec, .slice (some ⟨b.thb, 0, none⟩) m.vs.threads.length 5, I m.vs.fuel, .slice h.oa m.vs.out.length h.oc, I m.ended]
/-- The number layer's object. -/
def isNum (nb : Nat) (s : Seg) : Prop := ∃ nbuf buf, buf.length = 24 ∧ s = List.flatten [blk nb 71 [.slice (some ⟨nbuf, 0, none⟩) 24 24], blk nbuf 5 (bytesV buf)]
structure VOk (b : VB) (ph : PH) (hh : List TH) (m : VM) (h : VHs) : Prop where
  prs : Arr 252 8 ph.pa m.pg.protos.length ph.pc (m.pg.protos.flatMap prV) h.sp
  ds : Arr 321 2 ph.da m.pg.descs.length ph.dc (m.pg.descs.flatMap upV) h.sd
  ks : Arr 42 3 ph.ka m.pg.consts.length ph.kc (m.pg.consts.flatMap valV) h.sk
  cds : Arr 324 2 ph.ca m.pg.code.length ph.cc (m.pg.code.flatMap insV) h.sc
  cls : Arr 181 3 h.la m.vs.clos.length h.lc (m.vs.clos.flatMap clV) h.sl
  ups : Arr 3 1 h.ua m.vs.upix.length h.uc (m.vs.upix.map I) h.su
  ces : Arr 287 5 h.ea m.vs.cells.length h.ec (m.vs.cells.flatMap ceV) h.se
  thr : ∃ rest, (m.vs.threads ++ rest).length = 5 ∧ hh.length = 5 ∧ Rws thR ((m.vs.threads ++ rest).zip hh) h.cs h.st
  out : Arr 5 1 h.oa m.vs.out.length h.oc (bytesV m.vs.out) h.so
  tab : isTabs b.tb b.nb m.vs.tabs h.stb
  nm : isNum b.nb h.sq
abbrev vsegs (b : VB) (ph : PH) (m : VM) (h : VHs) : Hp := [vhead b ph m h, h.sp, h.sd, h.sk, h.sc, h.sl, h.su, h.se, blk b.thb 263 h.cs, h.st, h.so, h.stb, h.sq]
def isVM (b : VB) (ph : PH) (hh : List TH) (m : VM) (seg : Seg) : Prop := ∃ h : VHs, seg = List.flatten (vsegs b ph m h) ∧ VOk b ph hh m h
abbrev tp (b : VB) (th : Nat) : Value := .pointer (some ⟨b.thb, 0 + th * 5, none⟩)
/-- An element, by a Go index. -/
def getI {α : Type} (l : List α) (i : Int) : Option α := if 0 ≤ i ∧ i < 1000000000 then l[i.toNat]? else none
theorem getI_some {α : Type} {l : List α} {i : Int} {x : α} (h : getI l i = some x) : (0 ≤ i ∧ i < 1000000000) ∧ i < l.length ∧ i = (i.toNat : Nat) ∧ ∃ hi : i.toNat < l.length, l[i.toNat] = x := by
  unfold getI at h
  split at h
  · rename_i hb
    obtain ⟨h1, h2⟩ := List.getElem?_eq_some_iff.1 h
    exact ⟨hb, by omega, by omega, h1, h2⟩
  · cases h
theorem seg_cell {segs : Hp} {s : Seg} {H : Hp} {b o : Nat} {v : Value} (hs : s ∈ segs) (h : Cell [s] b o v) : Cell (List.flatten segs :: H) b o v := by
  obtain ⟨c, T, fz, h1, h2⟩ := h
  refine ⟨c, T, fz, ?_, h2⟩
  have h3 : (b, Obj.cells c T fz) ∈ s := by simpa [Has] using h1
  exact List.mem_flatten.2 ⟨_, List.mem_cons_self, List.mem_flatten.2 ⟨s, hs, h3⟩⟩
theorem seg_cells {segs : Hp} {s : Seg} {H : Hp} {b o : Nat} {vs : List Value} (hs : s ∈ segs) (h : Cells [s] b o vs) : Cells (List.flatten segs :: H) b o vs := by
  obtain ⟨c, T, fz, h1, h2⟩ := h
  refine ⟨c, T, fz, ?_, h2⟩
  have h3 : (b, Obj.cells c T fz) ∈ s := by simpa [Has] using h1
  exact List.mem_flatten.2 ⟨_, List.mem_cons_self, List.mem_flatten.2 ⟨s, hs, h3⟩⟩
/-- A row's element. -/
theorem arr_at {α : Type} {f : α → List Value} {k : Nat} (hf : ∀ x, (f x).length = k) {T : TypeId} {a : Option Addr} {l : List α} {c : Nat} {s : Seg} (hA : Arr T k a l.length c (l.flatMap f) s) {i : Int} {x : α} (hi : getI l i = some x) :
    ∃ q, a = some ⟨q, 0, none⟩ ∧ Cells [s] q (0 + i.toNat * k) (f x) := by
  obtain ⟨_, h2, h3, h4, h5⟩ := getI_some hi
  obtain ⟨q, sp, rfl, _, _, rfl⟩ := hA.row (by omega)
  exact ⟨q, rfl, flat_cellsE hf h3 h4 h5⟩
theorem arr1_at {α : Type} {g : α → Value} {T : TypeId} {a : Option Addr} {l : List α} {c : Nat} {s : Seg} (hA : Arr T 1 a l.length c (l.map g) s) {i : Int} {x : α} (hi : getI l i = some x) :
    ∃ q, a = some ⟨q, 0, none⟩ ∧ Cell [s] q (0 + i.toNat * 1) (g x) := by
  obtain ⟨_, h2, h3, h4, h5⟩ := getI_some hi
  obtain ⟨q, sp, rfl, _, _, rfl⟩ := hA.row (by omega)
  refine ⟨q, rfl, Cell.head ?_⟩
  rw [show 0 + i.toNat * 1 = i.toNat by omega, List.getElem?_append_left (by simpa using h4), List.getElem?_map, List.getElem?_eq_getElem h4, h5]
  rfl
section
variable {b : VB} {ph : PH} {hh : List TH} {m : VM} {seg : Seg}
/-- The machine's own cells. -/
theorem isVM.hd (hM : isVM b ph hh m seg) : ∃ h : VHs, VOk b ph hh m h ∧ ∀ (H : Hp) (q : Nat) (v : Value), [pt b.nb, pt b.tb, .slice ph.pa m.pg.protos.length ph.pc, .slice ph.da m.pg.descs.length ph.dc, .slice ph.ka m.pg.consts.length ph.kc, .slice ph.ca m.pg.code.length ph.cc, .slice h.la m.vs.clos.length h.lc, .slice h.ua m.vs.upix.length h.uc, .slice h.ea m.vs.cells.length h.ec, .slice (some ⟨b.thb, 0, none⟩) m.vs.threads.length 5, I m.vs.fuel, .slice h.oa m.vs.out.length h.oc, I m.ended][q]? = some v → Cell (seg :: H) b.vb (0 + q) v := by
  obtain ⟨h, rfl, hO⟩ := hM
  refine ⟨h, hO, fun H q v hv => seg_cell (s := vhead b ph m h) (List.mem_cons_self) ?_⟩
  rw [Nat.zero_add]
  exact Cell.head hv
theorem isVM.num (hM : isVM b ph hh m seg) {H : Hp} : Cell (seg :: H) b.vb (0 + 0) (pt b.nb) := by obtain ⟨h, _, hc⟩ := hM.hd; exact hc H 0 _ rfl
theorem isVM.tabs (hM : isVM b ph hh m seg) {H : Hp} : Cell (seg :: H) b.vb (0 + 1) (pt b.tb) := by obtain ⟨h, _, hc⟩ := hM.hd; exact hc H 1 _ rfl
theorem isVM.protos (hM : isVM b ph hh m seg) {H : Hp} : Cell (seg :: H) b.vb (0 + 2) (.slice ph.pa m.pg.protos.length ph.pc) := by obtain ⟨h, _, hc⟩ := hM.hd; exact hc H 2 _ rfl
theorem isVM.descs (hM : isVM b ph hh m seg) {H : Hp} : Cell (seg :: H) b.vb (0 + 3) (.slice ph.da m.pg.descs.length ph.dc) := by obtain ⟨h, _, hc⟩ := hM.hd; exact hc H 3 _ rfl
theorem isVM.consts (hM : isVM b ph hh m seg) {H : Hp} : Cell (seg :: H) b.vb (0 + 4) (.slice ph.ka m.pg.consts.length ph.kc) := by obtain ⟨h, _, hc⟩ := hM.hd; exact hc H 4 _ rfl
theorem isVM.code (hM : isVM b ph hh m seg) {H : Hp} : Cell (seg :: H) b.vb (0 + 5) (.slice ph.ca m.pg.code.length ph.cc) := by obtain ⟨h, _, hc⟩ := hM.hd; exact hc H 5 _ rfl
theorem isVM.threads (hM : isVM b ph hh m seg) {H : Hp} : Cell (seg :: H) b.vb (0 + 9) (.slice (some ⟨b.thb, 0, none⟩) m.vs.threads.length 5) := by obtain ⟨h, _, hc⟩ := hM.hd; exact hc H 9 _ rfl
theorem isVM.fuel (hM : isVM b ph hh m seg) {H : Hp} : Cell (seg :: H) b.vb (0 + 10) (I m.vs.fuel) := by obtain ⟨h, _, hc⟩ := hM.hd; exact hc H 10 _ rfl
theorem isVM.end_ (hM : isVM b ph hh m seg) {H : Hp} : Cell (seg :: H) b.vb (0 + 12) (I m.ended) := by obtain ⟨h, _, hc⟩ := hM.hd; exact hc H 12 _ rfl
theorem isVM.closL (hM : isVM b ph hh m seg) : ∃ la lc, ∀ H : Hp, Cell (seg :: H) b.vb (0 + 6) (.slice la m.vs.clos.length lc) := by obtain ⟨h, _, hc⟩ := hM.hd; exact ⟨_, _, fun H => hc H 6 _ rfl⟩
theorem isVM.outL (hM : isVM b ph hh m seg) : ∃ oa oc, ∀ H : Hp, Cell (seg :: H) b.vb (0 + 11) (.slice oa m.vs.out.length oc) := by obtain ⟨h, _, hc⟩ := hM.hd; exact ⟨_, _, fun H => hc H 11 _ rfl⟩
theorem isVM.upixL (hM : isVM b ph hh m seg) : ∃ oa oc, ∀ H : Hp, Cell (seg :: H) b.vb (0 + 7) (.slice oa m.vs.upix.length oc) := by obtain ⟨h, _, hc⟩ := hM.hd; exact ⟨_, _, fun H => hc H 7 _ rfl⟩
theorem isVM.proto (hM : isVM b ph hh m seg) {i : Int} {p : Pr} (hp : getI m.pg.protos i = some p) : ∃ q, ph.pa = some ⟨q, 0, none⟩ ∧ ∀ H : Hp, Cells (seg :: H) q (0 + i.toNat * 8) (prV p) := by
  obtain ⟨h, rfl, hO⟩ := hM
  obtain ⟨q, hq, hc⟩ := arr_at prV_len hO.prs hp
  exact ⟨q, hq, fun H => seg_cells (s := h.sp) (by simp) hc⟩
theorem isVM.desc (hM : isVM b ph hh m seg) {i : Int} {p : Int × Int} (hp : getI m.pg.descs i = some p) : ∃ q, ph.da = some ⟨q, 0, none⟩ ∧ ∀ H : Hp, Cells (seg :: H) q (0 + i.toNat * 2) (upV p) := by
  obtain ⟨h, rfl, hO⟩ := hM
  obtain ⟨q, hq, hc⟩ := arr_at upV_len hO.ds hp
  exact ⟨q, hq, fun H => seg_cells (s := h.sd) (by simp) hc⟩
theorem isVM.const (hM : isVM b ph hh m seg) {i : Int} {p : V} (hp : getI m.pg.consts i = some p) : ∃ q, ph.ka = some ⟨q, 0, none⟩ ∧ ∀ H : Hp, Cells (seg :: H) q (0 + i.toNat * 3) (valV p) := by
  obtain ⟨h, rfl, hO⟩ := hM
  obtain ⟨q, hq, hc⟩ := arr_at valV_len hO.ks hp
  exact ⟨q, hq, fun H => seg_cells (s := h.sk) (by simp) hc⟩
theorem isVM.ins (hM : isVM b ph hh m seg) {i : Int} {p : In} (hp : getI m.pg.code i = some p) : ∃ q, ph.ca = some ⟨q, 0, none⟩ ∧ ∀ H : Hp, Cells (seg :: H) q (0 + i.toNat * 2) (insV p) := by
  obtain ⟨h, rfl, hO⟩ := hM
  obtain ⟨q, hq, hc⟩ := arr_at insV_len hO.cds hp
  exact ⟨q, hq, fun H => seg_cells (s := h.sc) (by simp) hc⟩
/-- A closure's place: the arena's header and the cells. -/
theorem isVM.clo (hM : isVM b ph hh m seg) {i : Int} {p : Cl} (hp : getI m.vs.clos i = some p) : ∃ q lc, (∀ H : Hp, Cell (seg :: H) b.vb (0 + 6) (.slice (some ⟨q, 0, none⟩) m.vs.clos.length lc)) ∧ ∀ H : Hp, Cells (seg :: H) q (0 + i.toNat * 3) (clV p) := by
  obtain ⟨h, hO, hc⟩ := hM.hd
  obtain ⟨h', rfl, hO'⟩ := hM
  obtain ⟨q, hq, hc2⟩ := arr_at clV_len hO'.cls hp
  refine ⟨q, h'.lc, fun H => seg_cell (s := vhead b ph m h') (List.mem_cons_self) (Cell.head (by rw [← hq]; rfl)), fun H => seg_cells (s := h'.sl) (by simp) hc2⟩
theorem isVM.upx (hM : isVM b ph hh m seg) {i p : Int} (hp : getI m.vs.upix i = some p) : ∃ q lc, (∀ H : Hp, Cell (seg :: H) b.vb (0 + 7) (.slice (some ⟨q, 0, none⟩) m.vs.upix.length lc)) ∧ ∀ H : Hp, Cell (seg :: H) q (0 + i.toNat * 1) (I p) := by
  obtain ⟨h', rfl, hO'⟩ := hM
  obtain ⟨q, hq, hc2⟩ := arr1_at hO'.ups hp
  refine ⟨q, h'.uc, fun H => seg_cell (s := vhead b ph m h') (List.mem_cons_self) (Cell.head (by rw [← hq]; rfl)), fun H => seg_cell (s := h'.su) (by simp) hc2⟩
theorem isVM.cel (hM : isVM b ph hh m seg) {i : Int} {p : Ce} (hp : getI m.vs.cells i = some p) : ∃ q lc, (∀ H : Hp, Cell (seg :: H) b.vb (0 + 8) (.slice (some ⟨q, 0, none⟩) m.vs.cells.length lc)) ∧ ∀ H : Hp, Cells (seg :: H) q (0 + i.toNat * 5) (ceV p) := by
  obtain ⟨h', rfl, hO'⟩ := hM
  obtain ⟨q, hq, hc2⟩ := arr_at ceV_len hO'.ces hp
  refine ⟨q, h'.ec, fun H => seg_cell (s := vhead b ph m h') (List.mem_cons_self) (Cell.head (by rw [← hq]; rfl)), fun H => seg_cells (s := h'.se) (by simp) hc2⟩
theorem zip_at {l rest : List Th} {hh : List TH} {th : Nat} {t : Th} {g : TH} (ht : l[th]? = some t) (hg : hh[th]? = some g) : ((l ++ rest).zip hh)[th]? = some (t, g) := by
  have h1 := (List.getElem?_eq_some_iff.1 ht).1
  rw [List.getElem?_zip_eq_some]
  exact ⟨by rw [List.getElem?_append_left h1, ht], hg⟩
/-- A thread's own cells, its stack, its frames. -/
theorem isVM.thr (hM : isVM b ph hh m seg) {th : Nat} {t : Th} (ht : m.vs.threads[th]? = some t) : ∃ g oa oc, hh[th]? = some g ∧ th < 5 ∧ (∀ (H : Hp) (q : Nat) (v : Value), (thV t g oa oc)[q]? = some v → Cell (seg :: H) b.thb (0 + th * 5 + q) v) ∧
    (∀ (i : Int) (v : V), getI t.stack i = some v → ∃ q, g.sa = some ⟨q, 0, none⟩ ∧ ∀ H : Hp, Cells (seg :: H) q (0 + i.toNat * 3) (valV v)) ∧ (∀ (i : Int) (f : Fr), getI t.frames i = some f → ∃ q, g.fa = some ⟨q, 0, none⟩ ∧ ∀ H : Hp, Cells (seg :: H) q (0 + i.toNat * 5) (frV f)) ∧
    (∀ (i j : Int), getI t.opn i = some j → ∃ q, oa = some ⟨q, 0, none⟩ ∧ ∀ H : Hp, Cell (seg :: H) q (0 + i.toNat * 1) (I j)) := by
  obtain ⟨h, rfl, hO⟩ := hM
  obtain ⟨rest, h5, h6, hR⟩ := hO.thr
  have hth := (List.getElem?_eq_some_iff.1 ht).1
  have hl : th < 5 := by rw [List.length_append] at h5; omega
  obtain ⟨g, hg⟩ : ∃ g, hh[th]? = some g := ⟨_, List.getElem?_eq_getElem (by omega)⟩
  have hz := zip_at (rest := rest) ht hg
  obtain ⟨hk, he⟩ := List.getElem?_eq_some_iff.1 hz
  obtain ⟨c0, ci, c2, s0, si, s2, h7, h8, h1, h2, h3, h4⟩ := hR.split thR_len hk
  rw [he] at h3
  obtain ⟨oa, oc, ss, sf, so, rfl, rfl, a1, a2, a3⟩ := h3
  refine ⟨g, oa, oc, hg, hl, fun H q v hv => ?_, fun i v hv => ?_, fun i f hf => ?_, fun i j hj => ?_⟩
  · refine seg_cell (s := blk b.thb 263 h.cs) (by simp) ?_
    rw [h7]
    exact Cell.amid (by omega) hv
  · obtain ⟨q, hq, hc⟩ := arr_at valV_len a1 hv
    refine ⟨q, hq, fun H => seg_cells (s := h.st) (by simp) ?_⟩
    rw [h8]
    exact seg_cells (segs := [s0, List.flatten [ss, sf, so], s2]) (s := List.flatten [ss, sf, so]) (by simp) (seg_cells (s := ss) (by simp) hc)
  · obtain ⟨q, hq, hc⟩ := arr_at frV_len a2 hf
    refine ⟨q, hq, fun H => seg_cells (s := h.st) (by simp) ?_⟩
    rw [h8]
    exact seg_cells (segs := [s0, List.flatten [ss, sf, so], s2]) (s := List.flatten [ss, sf, so]) (by simp) (seg_cells (s := sf) (by simp) hc)
  · obtain ⟨q, hq, hc⟩ := arr1_at a3 hj
    refine ⟨q, hq, fun H => seg_cell (s := h.st) (by simp) ?_⟩
    rw [h8]
    exact seg_cell (segs := [s0, List.flatten [ss, sf, so], s2]) (s := List.flatten [ss, sf, so]) (by simp) (seg_cell (s := so) (by simp) hc)
end
end Go.Wl
