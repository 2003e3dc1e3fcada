/- Plain: package vm, the loader (openings made by program). -/
import Derived.Test.Qxb6500573aGreatDoorBE
namespace Go.Wl
open Go Go.Sl Go.Proofs
set_option linter.unusedVariables false
section
variable {b : VB} {ph : PH} {hh : List TH} {m : VM} {seg : Seg}
theorem isVM.opnAP (hM : isVM b ph hh m seg) : ∃ (la ua ea xa : Option Addr) (lc uc ec xc : Nat) (r sp r2 : Seg), seg = List.flatten [blk b.vb 115 [pt b.nb, pt b.tb, .slice ph.pa m.pg.protos.length ph.pc, .slice ph.da m.pg.descs.length ph.dc, .slice ph.ka m.pg.consts.length ph.kc, .slice ph.ca m.pg.code.length ph.cc, .slice la m.vs.clos.length lc, .slice ua m.vs.upix.length uc, .slice ea m.vs.cells.length ec, .slice (some ⟨b.thb, 0, none⟩) m.vs.threads.length 5, I m.vs.fuel, .slice xa m.vs.out.length xc, I m.ended], r, sp, r2] ∧ Arr 252 8 ph.pa m.pg.protos.length ph.pc (m.pg.protos.flatMap prV) sp ∧
    ∀ (l' : List Pr) a' c' s', Arr 252 8 a' l'.length c' (l'.flatMap prV) s' → isVM b { ph with pa := a', pc := c' } hh { m with pg := { m.pg with protos := l' } } (List.flatten [blk b.vb 115 [pt b.nb, pt b.tb, .slice a' l'.length c', .slice ph.da m.pg.descs.length ph.dc, .slice ph.ka m.pg.consts.length ph.kc, .slice ph.ca m.pg.code.length ph.cc, .slice la m.vs.clos.length lc, .slice ua m.vs.upix.length uc, .slice ea m.vs.cells.length ec, .slice (some ⟨b.thb, 0, none⟩) m.vs.threads.length 5, I m.vs.fuel, .slice xa m.vs.out.length xc, I m.ended], r, s', r2]) := by
  obtain ⟨h, rfl, hO⟩ := hM
  obtain ⟨la, lc, ua, uc, ea, ec, xa, xc, sp, sd, sk, sc, sl, su, se, cs, st, sx, stb, sq⟩ := h
  obtain ⟨h1, h2, h3, h4, h5, h6, h7, h8, h9, h10, h11⟩ := hO
  refine ⟨la, ua, ea, xa, lc, uc, ec, xc, List.flatten [], sp, List.flatten [sd, sk, sc, sl, su, se, blk b.thb 263 cs, st, sx, stb, sq], by simp, h1, fun l' a' c' s' hq => ⟨⟨la, lc, ua, uc, ea, ec, xa, xc, s', sd, sk, sc, sl, su, se, cs, st, sx, stb, sq⟩, by simp [vsegs, vhead], ⟨hq, h2, h3, h4, h5, h6, h7, h8, h9, h10, h11⟩⟩⟩
theorem isVM.opnAD (hM : isVM b ph hh m seg) : ∃ (la ua ea xa : Option Addr) (lc uc ec xc : Nat) (r sd r2 : Seg), seg = List.flatten [blk b.vb 115 [pt b.nb, pt b.tb, .slice ph.pa m.pg.protos.length ph.pc, .slice ph.da m.pg.descs.length ph.dc, .slice ph.ka m.pg.consts.length ph.kc, .slice ph.ca m.pg.code.length ph.cc, .slice la m.vs.clos.length lc, .slice ua m.vs.upix.length uc, .slice ea m.vs.cells.length ec, .slice (some ⟨b.thb, 0, none⟩) m.vs.threads.length 5, I m.vs.fuel, .slice xa m.vs.out.length xc, I m.ended], r, sd, r2] ∧ Arr 321 2 ph.da m.pg.descs.length ph.dc (m.pg.descs.flatMap upV) sd ∧
    ∀ (l' : List (Int × Int)) a' c' s', Arr 321 2 a' l'.length c' (l'.flatMap upV) s' → isVM b { ph with da := a', dc := c' } hh { m with pg := { m.pg with descs := l' } } (List.flatten [blk b.vb 115 [pt b.nb, pt b.tb, .slice ph.pa m.pg.protos.length ph.pc, .slice a' l'.length c', .slice ph.ka m.pg.consts.length ph.kc, .slice ph.ca m.pg.code.length ph.cc, .slice la m.vs.clos.length lc, .slice ua m.vs.upix.length uc, .slice ea m.vs.cells.length ec, .slice (some ⟨b.thb, 0, none⟩) m.vs.threads.length 5, I m.vs.fuel, .slice xa m.vs.out.length xc, I m.ended], r, s', r2]) := by
  obtain ⟨h, rfl, hO⟩ := hM
  obtain ⟨la, lc, ua, uc, ea, ec, xa, xc, sp, sd, sk, sc, sl, su, se, cs, st, sx, stb, sq⟩ := h
  obtain ⟨h1, h2, h3, h4, h5, h6, h7, h8, h9, h10, h11⟩ := hO
  refine ⟨la, ua, ea, xa, lc, uc, ec, xc, List.flatten [sp], sd, List.flatten [sk, sc, sl, su, se, blk b.thb 263 cs, st, sx, stb, sq], by simp, h2, fun l' a' c' s' hq => ⟨⟨la, lc, ua, uc, ea, ec, xa, xc, sp, s', sk, sc, sl, su, se, cs, st, sx, stb, sq⟩, by simp [vsegs, vhead], ⟨h1, hq, h3, h4, h5, h6, h7, h8, h9, h10, h11⟩⟩⟩
theorem isVM.opnAK (hM : isVM b ph hh m seg) : ∃ (la ua ea xa : Option Addr) (lc uc ec xc : Nat) (r sk r2 : Seg), seg = List.flatten [blk b.vb 115 [pt b.nb, pt b.tb, .slice ph.pa m.pg.protos.length ph.pc, .slice ph.da m.pg.descs.length ph.dc, .slice ph.ka m.pg.consts.length ph.kc, .slice ph.ca m.pg.code.length ph.cc, .slice la m.vs.clos.length lc, .slice ua m.vs.upix.length uc, .slice ea m.vs.cells.length ec, .slice (some ⟨b.thb, 0, none⟩) m.vs.threads.length 5, I m.vs.fuel, .slice xa m.vs.out.length xc, I m.ended], r, sk, r2] ∧ Arr 42 3 ph.ka m.pg.consts.length ph.kc (m.pg.consts.flatMap valV) sk ∧
    ∀ (l' : List V) a' c' s', Arr 42 3 a' l'.length c' (l'.flatMap valV) s' → isVM b { ph with ka := a', kc := c' } hh { m with pg := { m.pg with consts := l' } } (List.flatten [blk b.vb 115 [pt b.nb, pt b.tb, .slice ph.pa m.pg.protos.length ph.pc, .slice ph.da m.pg.descs.length ph.dc, .slice a' l'.length c', .slice ph.ca m.pg.code.length ph.cc, .slice la m.vs.clos.length lc, .slice ua m.vs.upix.length uc, .slice ea m.vs.cells.length ec, .slice (some ⟨b.thb, 0, none⟩) m.vs.threads.length 5, I m.vs.fuel, .slice xa m.vs.out.length xc, I m.ended], r, s', r2]) := by
  obtain ⟨h, rfl, hO⟩ := hM
  obtain ⟨la, lc, ua, uc, ea, ec, xa, xc, sp, sd, sk, sc, sl, su, se, cs, st, sx, stb, sq⟩ := h
  obtain ⟨h1, h2, h3, h4, h5, h6, h7, h8, h9, h10, h11⟩ := hO
  refine ⟨la, ua, ea, xa, lc, uc, ec, xc, List.flatten [sp, sd], sk, List.flatten [sc, sl, su, se, blk b.thb 263 cs, st, sx, stb, sq], by simp, h3, fun l' a' c' s' hq => ⟨⟨la, lc, ua, uc, ea, ec, xa, xc, sp, sd, s', sc, sl, su, se, cs, st, sx, stb, sq⟩, by simp [vsegs, vhead], ⟨h1, h2, hq, h4, h5, h6, h7, h8, h9, h10, h11⟩⟩⟩
theorem isVM.opnAC (hM : isVM b ph hh m seg) : ∃ (la ua ea xa : Option Addr) (lc uc ec xc : Nat) (r sc r2 : Seg), seg = List.flatten [blk b.vb 115 [pt b.nb, pt b.tb, .slice ph.pa m.pg.protos.length ph.pc, .slice ph.da m.pg.descs.length ph.dc, .slice ph.ka m.pg.consts.length ph.kc, .slice ph.ca m.pg.code.length ph.cc, .slice la m.vs.clos.length lc, .slice ua m.vs.upix.length uc, .slice ea m.vs.cells.length ec, .slice (some ⟨b.thb, 0, none⟩) m.vs.threads.length 5, I m.vs.fuel, .slice xa m.vs.out.length xc, I m.ended], r, sc, r2] ∧ Arr 324 2 ph.ca m.pg.code.length ph.cc (m.pg.code.flatMap insV) sc ∧
    ∀ (l' : List In) a' c' s', Arr 324 2 a' l'.length c' (l'.flatMap insV) s' → isVM b { ph with ca := a', cc := c' } hh { m with pg := { m.pg with code := l' } } (List.flatten [blk b.vb 115 [pt b.nb, pt b.tb, .slice ph.pa m.pg.protos.length ph.pc, .slice ph.da m.pg.descs.length ph.dc, .slice ph.ka m.pg.consts.length ph.kc, .slice a' l'.length c', .slice la m.vs.clos.length lc, .slice ua m.vs.upix.length uc, .slice ea m.vs.cells.length ec, .slice (some ⟨b.thb, 0, none⟩) m.vs.threads.length 5, I m.vs.fuel, .slice xa m.vs.out.length xc, I m.ended], r, s', r2]) := by
  obtain ⟨h, rfl, hO⟩ := hM
  obtain ⟨la, lc, ua, uc, ea, ec, xa, xc, sp, sd, sk, sc, sl, su, se, cs, st, sx, stb, sq⟩ := h
  obtain ⟨h1, h2, h3, h4, h5, h6, h7, h8, h9, h10, h11⟩ := hO
  refine ⟨la, ua, ea, xa, lc, uc, ec, xc, List.flatten [sp, sd, sk], sc, List.flatten [sl, su, se, blk b.thb 263 cs, st, sx, stb, sq], by simp, h4, fun l' a' c' s' hq => ⟨⟨la, lc, ua, uc, ea, ec, xa, xc, sp, sd, sk, s', sl, su, se, cs, st, sx, stb, sq⟩, by simp [vsegs, vhead], ⟨h1, h2, h3, hq, h5, h6, h7, h8, h9, h10, h11⟩⟩⟩
theorem isVM.opnOF (hM : isVM b ph hh m seg) : ∃ (la ua ea xa : Option Addr) (lc uc ec xc : Nat) (r sx r2 : Seg), seg = List.flatten [blk b.vb 115 [pt b.nb, pt b.tb, .slice ph.pa m.pg.protos.length ph.pc, .slice ph.da m.pg.descs.length ph.dc, .slice ph.ka m.pg.consts.length ph.kc, .slice ph.ca m.pg.code.length ph.cc, .slice la m.vs.clos.length lc, .slice ua m.vs.upix.length uc, .slice ea m.vs.cells.length ec, .slice (some ⟨b.thb, 0, none⟩) m.vs.threads.length 5, I m.vs.fuel, .slice xa m.vs.out.length xc, I m.ended], r, sx, r2] ∧ Arr 5 1 xa m.vs.out.length xc (bytesV m.vs.out) sx ∧
    isVM b ph hh { m with vs := { m.vs with out := [], fuel := 0 } } (List.flatten [blk b.vb 115 [pt b.nb, pt b.tb, .slice ph.pa m.pg.protos.length ph.pc, .slice ph.da m.pg.descs.length ph.dc, .slice ph.ka m.pg.consts.length ph.kc, .slice ph.ca m.pg.code.length ph.cc, .slice la m.vs.clos.length lc, .slice ua m.vs.upix.length uc, .slice ea m.vs.cells.length ec, .slice (some ⟨b.thb, 0, none⟩) m.vs.threads.length 5, I 0, .slice xa 0 xc, I m.ended], r, sx, r2]) := by
  obtain ⟨h, rfl, hO⟩ := hM
  obtain ⟨la, lc, ua, uc, ea, ec, xa, xc, sp, sd, sk, sc, sl, su, se, cs, st, sx, stb, sq⟩ := h
  obtain ⟨h1, h2, h3, h4, h5, h6, h7, h8, h9, h10, h11⟩ := hO
  exact ⟨la, ua, ea, xa, lc, uc, ec, xc, List.flatten [sp, sd, sk, sc, sl, su, se, blk b.thb 263 cs, st], sx, List.flatten [stb, sq], by simp, h9, ⟨⟨la, lc, ua, uc, ea, ec, xa, xc, sp, sd, sk, sc, sl, su, se, cs, st, sx, stb, sq⟩, by simp [vsegs, vhead], ⟨h1, h2, h3, h4, h5, h6, h7, h8, arr_zero h9, h10, h11⟩⟩⟩
theorem isVM.opnFE (hM : isVM b ph hh m seg) : ∃ (la ua ea xa : Option Addr) (lc uc ec xc : Nat) (r : Seg), seg = List.flatten [blk b.vb 115 [pt b.nb, pt b.tb, .slice ph.pa m.pg.protos.length ph.pc, .slice ph.da m.pg.descs.length ph.dc, .slice ph.ka m.pg.consts.length ph.kc, .slice ph.ca m.pg.code.length ph.cc, .slice la m.vs.clos.length lc, .slice ua m.vs.upix.length uc, .slice ea m.vs.cells.length ec, .slice (some ⟨b.thb, 0, none⟩) m.vs.threads.length 5, I m.vs.fuel, .slice xa m.vs.out.length xc, I m.ended], r] ∧
    ∀ fu e, isVM b ph hh { m with vs := { m.vs with fuel := fu }, ended := e } (List.flatten [blk b.vb 115 [pt b.nb, pt b.tb, .slice ph.pa m.pg.protos.length ph.pc, .slice ph.da m.pg.descs.length ph.dc, .slice ph.ka m.pg.consts.length ph.kc, .slice ph.ca m.pg.code.length ph.cc, .slice la m.vs.clos.length lc, .slice ua m.vs.upix.length uc, .slice ea m.vs.cells.length ec, .slice (some ⟨b.thb, 0, none⟩) m.vs.threads.length 5, I fu, .slice xa m.vs.out.length xc, I e], r]) := by
  obtain ⟨h, rfl, hO⟩ := hM
  obtain ⟨la, lc, ua, uc, ea, ec, xa, xc, sp, sd, sk, sc, sl, su, se, cs, st, sx, stb, sq⟩ := h
  obtain ⟨h1, h2, h3, h4, h5, h6, h7, h8, h9, h10, h11⟩ := hO
  exact ⟨la, ua, ea, xa, lc, uc, ec, xc, List.flatten [sp, sd, sk, sc, sl, su, se, blk b.thb 263 cs, st, sx, stb, sq], by simp, fun fu e => ⟨⟨la, lc, ua, uc, ea, ec, xa, xc, sp, sd, sk, sc, sl, su, se, cs, st, sx, stb, sq⟩, by simp [vsegs, vhead], ⟨h1, h2, h3, h4, h5, h6, h7, h8, h9, h10, h11⟩⟩⟩
end
/-- The reader moves on. -/
def nx (r : Rd) (n : Nat) : Option Rd := if (tkR r n).bad = true then none else some { r with i := r.i + n }
theorem nx_some {r r' : Rd} {n : Nat} (h : nx r n = some r') : (tkR r n).bad = false ∧ tkR r n = r' ∧ r.bad = false ∧ r.i + n ≤ r.l.length ∧ r' = { r with i := r.i + n } := by
  unfold nx at h
  by_cases hb : (tkR r n).bad = true
  · rw [if_pos hb] at h; cases h
  · rw [if_neg hb] at h
    injection h with h
    have hb' : (tkR r n).bad = false := by simpa using hb
    obtain ⟨h1, h2, h3⟩ := tk_good hb'
    unfold tkOk at h2
    exact ⟨hb', by rw [h3, h], h1, by omega, h.symm⟩
def byA (r : Rd) (j : Nat) : Nat := (r.l.getD (r.i + j) 0).toNat
theorem byA_lt (r : Rd) (j : Nat) : byA r j < 256 := UInt8.toNat_lt _
def w16 (r : Rd) : Nat := byA r 0 + 256 * byA r 1
theorem u8M_nx {r r' : Rd} (h : nx r 1 = some r') : u8M r = (byA r 0 : Nat) := by
  obtain ⟨h1, _⟩ := nx_some h
  unfold u8M
  rw [if_neg (by rw [h1]; decide)]
  rfl
theorem u16M_nx {r r' : Rd} (h : nx r 2 = some r') : u16M r = (w16 r : Nat) := by
  obtain ⟨h1, _⟩ := nx_some h
  unfold u16M
  rw [if_neg (by rw [h1]; decide)]
  rfl
def leN (l : List UInt8) : Nat → Nat → Nat
  | _, 0 => 0
  | i, k + 1 => (l.getD i 0).toNat + 256 * leN l (i + 1) k
theorem leN_lt (l : List UInt8) : ∀ i k, leN l i k < 256 ^ k
  | i, 0 => by simp [leN]
  | i, k + 1 => by
    have h1 := leN_lt l (i + 1) k
    have h2 : (l.getD i 0).toNat < 256 := UInt8.toNat_lt _
    unfold leN
    rw [Nat.pow_succ]
    omega
def konM (r : Rd) : Option (V × Rd) :=
  bind1 (nx r 1) fun r1 =>
  if byA r 0 = 1 then
    bind1 (nx r1 8) fun r2 => if cmpM 2 (leN r.l r1.i 8) (leN r.l r1.i 8) = true ∧ leN r.l r1.i 8 ≠ 9221120237041090561 then none else some (⟨2, (leN r.l r1.i 8 : Nat), []⟩, r2)
  else if byA r 0 = 2 then
    bind1 (nx r1 1) fun r2 => if byA r1 0 ≤ 40 then bind1 (nx r2 (byA r1 0)) fun r3 => some (⟨3, 0, (r.l.drop r2.i).take (byA r1 0)⟩, r3) else none
  else none
def konL : Nat → Rd → List V → Option (List V × Rd)
  | 0, r, l => some (l, r)
  | n + 1, r, l => if l.length < 1000000 then bind2 (konM r) fun v r1 => konL n r1 (l ++ [v]) else none
def dscL : Nat → Rd → List (Int × Int) → Option (List (Int × Int) × Rd)
  | 0, r, l => some (l, r)
  | n + 1, r, l => if l.length < 1000000 then bind1 (nx r 2) fun r1 => if byA r 0 ≤ 1 then dscL n r1 (l ++ [(((byA r 0 : Nat) : Int), ((byA r 1 : Nat) : Int))]) else none else none
def insL : Nat → Rd → List In → Option (List In × Rd)
  | 0, r, l => some (l, r)
  | n + 1, r, l => if l.length < 1000000 then bind1 (nx r 3) fun r1 => insL n r1 (l ++ [(((byA r 0 : Nat) : Int), ((byA r 1 + 256 * byA r 2 : Nat) : Int))]) else none
def prtM (r : Rd) (g : Pg) : Option (Pg × Rd) :=
  bind1 (nx r 3) fun r1 =>
  if byA r 0 ≤ 3 ∧ byA r 0 ≤ byA r 1 ∧ byA r 1 ≤ 12 then
    bind2 (dscL (byA r 2) r1 g.descs) fun ds r2 =>
    bind1 (nx r2 2) fun r3 =>
    bind2 (konL (w16 r2) r3 g.consts) fun ks r4 =>
    bind1 (nx r4 2) fun r5 =>
    bind2 (insL (w16 r4) r5 g.code) fun cs r6 =>
    if g.protos.length < 1000000 then
      some (⟨g.protos ++ [⟨(byA r 0 : Nat), (byA r 1 : Nat), g.descs.length, (byA r 2 : Nat), g.consts.length, (w16 r2 : Nat), g.code.length, (w16 r4 : Nat)⟩], ds, ks, cs⟩, r6)
    else none
  else none
def prtL : Nat → Rd → Pg → Option (Pg × Rd)
  | 0, r, g => some (g, r)
  | n + 1, r, g => bind2 (prtM r g) fun g1 r1 => prtL n r1 g1
def okPg (g : Pg) : Bool := match g.protos with
  | p :: _ => decide (p.nparams = 0) && decide (p.nup = 0)
  | [] => false
def decM (l : List UInt8) (g : Pg) : Option Pg :=
  if l.length ≤ 1000000 then
  bind1 (nx ⟨l, 0, false⟩ 1) fun r1 =>
  if 1 ≤ byA ⟨l, 0, false⟩ 0 ∧ byA ⟨l, 0, false⟩ 0 ≤ 13 then
    bind2 (prtL (byA ⟨l, 0, false⟩ 0) r1 g) fun g1 r2 => if r2.i = l.length ∧ okPg g1 = true then some g1 else none
  else none
  else none
def bltL : Nat → Nat → List Tb → Option (List Tb)
  | 0, _, ts => some ts
  | n + 1, j, ts => bind2 (setM ts 0 ⟨3, 0, builtinName (j : Nat)⟩ ⟨6, (j : Nat), []⟩) fun ts1 _ => if 0 < ts1.length ∧ ts1.length ≤ 1000 then bltL n (j + 1) ts1 else none
def ld0 (m : VM) : VM := { wipeM 21 m with vs := { (wipeM 21 m).vs with out := [], fuel := 0, tabs := [] } }
def ld1 (g : Pg) (ts : List Tb) (fuel : Int) : VM := ⟨g, ⟨[⟨0, 0, 0⟩], [], [], [thNew 0], if 0 < fuel then fuel else 0, [], ts⟩, 0⟩
def loadM (l : List UInt8) (fuel : Int) (m : VM) : Option VM :=
  if m.vs.tabs.length ≤ 1000 then
  if l.length ≤ 32768 then
    bind1 (decM l ⟨[], [], [], []⟩) fun g => bind1 (bltL 11 1 [Tb.empty]) fun ts => some (ld1 g ts fuel)
  else none
  else none
end Go.Wl
