/- Plain: package vm, threads and ends. -/
import Derived.Test.Qxb6500573aGreatDoorAX
namespace Go.Wl
open Go Go.Sl Go.Proofs
set_option linter.unusedVariables false
def wipeM (e : Int) (m : VM) : VM := { m with pg := ⟨[], [], [], []⟩, vs := { m.vs with clos := [], upix := [], cells := [], threads := [] }, ended := e }
def thNew (fn : Int) : Th := ⟨1, fn, [], [], []⟩
def spawnM (fn : Int) (m : VM) : Option (Int × VM) := if m.vs.threads.length < 5 then some ((m.vs.threads.length : Int), { m with vs := { m.vs with threads := m.vs.threads ++ [thNew fn] } }) else none
def statusV (th : Int) (m : VM) : Int := if th < 0 ∨ (m.vs.threads.length : Int) ≤ th then 0 else match m.vs.threads[th.toNat]? with | some t => t.st | none => 0
def validM (x : V) (m : VM) : Option Bool := if well x = true then (if x.t = 2 then (if 0 ≤ x.n then some (!cmpM 2 x.n.toNat x.n.toNat || decide (x.n = 9221120237041090561)) else none) else if x.t = 4 then (if m.vs.tabs.length ≤ 1000000 then some (decide (x.n < m.vs.tabs.length)) else none) else if x.t = 5 then (if m.vs.clos.length ≤ 1000000 then some (decide (x.n < m.vs.clos.length)) else none) else if x.t = 7 then (if m.vs.threads.length ≤ 1000000 then some (decide (x.n < m.vs.threads.length)) else none) else some true) else some false
section
variable {b : VB} {ph : PH} {hh : List TH} {m : VM} {seg : Seg}
theorem arr_zero {T : TypeId} {k : Nat} {a : Option Addr} {n c : Nat} {xs : List Value} {s : Seg} (h : Arr T k a n c xs s) : Arr T k a 0 c [] s := by
  have := h.cut (j := 0) (Nat.zero_le _)
  rwa [Nat.zero_mul, List.take_zero] at this
theorem isVM.opnW (hM : isVM b ph hh m seg) : ∃ (la ua ea xa : Option Addr) (lc uc ec xc : Nat) (r : Seg) (x1 x2 x3 x4 x5 x6 x7 : List Value) (s1 s2 s3 s4 s5 s6 s7 : Seg), seg = List.flatten [blk b.vb 115 [pt b.nb, pt b.tb, .slice ph.pa m.pg.protos.length ph.pc, .slice ph.da m.pg.descs.length ph.dc, .slice ph.ka m.pg.consts.length ph.kc, .slice ph.ca m.pg.code.length ph.cc, .slice la m.vs.clos.length lc, .slice ua m.vs.upix.length uc, .slice ea m.vs.cells.length ec, .slice (some ⟨b.thb, 0, none⟩) m.vs.threads.length 5, I m.vs.fuel, .slice xa m.vs.out.length xc, I m.ended], r] ∧
    Arr 252 8 ph.pa m.pg.protos.length ph.pc x1 s1 ∧ Arr 321 2 ph.da m.pg.descs.length ph.dc x2 s2 ∧ Arr 42 3 ph.ka m.pg.consts.length ph.kc x3 s3 ∧ Arr 324 2 ph.ca m.pg.code.length ph.cc x4 s4 ∧ Arr 181 3 la m.vs.clos.length lc x5 s5 ∧ Arr 3 1 ua m.vs.upix.length uc x6 s6 ∧ Arr 287 5 ea m.vs.cells.length ec x7 s7 ∧ m.vs.threads.length ≤ 5 ∧
    ∀ e, isVM b ph hh (wipeM e m) (List.flatten [blk b.vb 115 [pt b.nb, pt b.tb, .slice ph.pa 0 ph.pc, .slice ph.da 0 ph.dc, .slice ph.ka 0 ph.kc, .slice ph.ca 0 ph.cc, .slice la 0 lc, .slice ua 0 uc, .slice ea 0 ec, .slice (some ⟨b.thb, 0, none⟩) 0 5, I m.vs.fuel, .slice xa m.vs.out.length xc, I e], r]) := by
  obtain ⟨h, rfl, hO⟩ := hM
  obtain ⟨la, lc, ua, uc, ea, ec, xa, xc, sp, sd, sk, sc, sl, su, se, cs, st, sx, stb, sq⟩ := h
  obtain ⟨h1, h2, h3, h4, h5, h6, h7, h8, h9, h10, h11⟩ := hO
  obtain ⟨rest, g1, g2, g3⟩ := h8
  refine ⟨la, ua, ea, xa, lc, uc, ec, xc, List.flatten [sp, sd, sk, sc, sl, su, se, blk b.thb 263 cs, st, sx, stb, sq], _, _, _, _, _, _, _, _, _, _, _, _, _, _, by simp, h1, h2, h3, h4, h5, h6, h7, by rw [List.length_append] at g1; omega, fun e => ⟨⟨la, lc, ua, uc, ea, ec, xa, xc, sp, sd, sk, sc, sl, su, se, cs, st, sx, stb, sq⟩, by simp [vsegs, vhead, wipeM], ?_⟩⟩
  exact ⟨(arr_zero h1), (arr_zero h2), (arr_zero h3), (arr_zero h4), (arr_zero h5), (arr_zero h6), (arr_zero h7), ⟨m.vs.threads ++ rest, by simpa [wipeM] using g1, g2, by simpa [wipeM] using g3⟩, h9, h10, h11⟩
theorem isVM.opnS (hM : isVM b ph hh m seg) (hn : m.vs.threads.length < 5) : ∃ (la ua ea xa na : Option Addr) (lc uc ec xc nc : Nat) (r ss sf sn s0 s2 : Seg) (c0 c2 : List Value) (t : Th) (g : TH) (y1 y2 y3 : List Value), hh[m.vs.threads.length]? = some g ∧
    seg = List.flatten [blk b.vb 115 [pt b.nb, pt b.tb, .slice ph.pa m.pg.protos.length ph.pc, .slice ph.da m.pg.descs.length ph.dc, .slice ph.ka m.pg.consts.length ph.kc, .slice ph.ca m.pg.code.length ph.cc, .slice la m.vs.clos.length lc, .slice ua m.vs.upix.length uc, .slice ea m.vs.cells.length ec, .slice (some ⟨b.thb, 0, none⟩) m.vs.threads.length 5, I m.vs.fuel, .slice xa m.vs.out.length xc, I m.ended], r, blk b.thb 263 (c0 ++ [I t.st, I t.fn, .slice g.sa t.stack.length g.sc, .slice g.fa t.frames.length g.fc, .slice na t.opn.length nc] ++ c2), s0, ss, sf, sn, s2] ∧ c0.length = 0 + m.vs.threads.length * 5 ∧ c0.length + 5 + c2.length = 25 ∧
    Arr 42 3 g.sa t.stack.length g.sc y1 ss ∧ Arr 331 5 g.fa t.frames.length g.fc y2 sf ∧ Arr 3 1 na t.opn.length nc y3 sn ∧
    ∀ fn, isVM b ph hh { m with vs := { m.vs with threads := m.vs.threads ++ [thNew fn] } } (List.flatten [blk b.vb 115 [pt b.nb, pt b.tb, .slice ph.pa m.pg.protos.length ph.pc, .slice ph.da m.pg.descs.length ph.dc, .slice ph.ka m.pg.consts.length ph.kc, .slice ph.ca m.pg.code.length ph.cc, .slice la m.vs.clos.length lc, .slice ua m.vs.upix.length uc, .slice ea m.vs.cells.length ec, .slice (some ⟨b.thb, 0, none⟩) (m.vs.threads.length + 1) 5, I m.vs.fuel, .slice xa m.vs.out.length xc, I m.ended], r, blk b.thb 263 (c0 ++ [I 1, I fn, .slice g.sa 0 g.sc, .slice g.fa 0 g.fc, .slice na 0 nc] ++ c2), s0, ss, sf, sn, s2]) := by
  obtain ⟨h, rfl, hO⟩ := hM
  obtain ⟨la, lc, ua, uc, ea, ec, xa, xc, sp, sd, sk, sc, sl, su, se, cs, st, sx, stb, sq⟩ := h
  obtain ⟨h1, h2, h3, h4, h5, h6, h7, ⟨rest, h5', h6', hR⟩, h9, h10, h11⟩ := hO
  have hk : m.vs.threads.length < ((m.vs.threads ++ rest).zip hh).length := by rw [List.length_zip, h5', h6']; omega
  obtain ⟨t0, rest, rfl⟩ : ∃ t r, rest = t :: r := by
    cases rest with
    | nil => rw [List.append_nil] at h5'; omega
    | cons t r => exact ⟨t, r, rfl⟩
  obtain ⟨g, hg⟩ : ∃ g, hh[m.vs.threads.length]? = some g := ⟨_, List.getElem?_eq_getElem (by omega)⟩
  have hz : ((m.vs.threads ++ t0 :: rest).zip hh)[m.vs.threads.length]? = some (t0, g) := by
    rw [List.getElem?_zip_eq_some]
    exact ⟨by simp, hg⟩
  obtain ⟨hk', he⟩ := List.getElem?_eq_some_iff.1 hz
  have hcl : cs.length = 25 := by
    have := hR.len thR_len
    rw [List.length_zip, h5', h6'] at this
    simpa using this
  obtain ⟨c0, ci, c2, s0, si, s2, e7, e8, g1, g2, g3, g4⟩ := hR.split thR_len hk'
  rw [he] at g3
  obtain ⟨na, nc, ss, sf, sn, rfl, rfl, a1, a2, a3⟩ := g3
  dsimp only at e7 e8
  subst e7 e8
  refine ⟨la, ua, ea, xa, na, lc, uc, ec, xc, nc, List.flatten [sp, sd, sk, sc, sl, su, se], ss, sf, sn, s0, List.flatten [s2, sx, stb, sq], c0, c2, t0, g, _, _, _, hg, by simp, by omega, by simp at hcl; omega, a1, a2, a3, fun fn => ?_⟩
  refine ⟨⟨la, lc, ua, uc, ea, ec, xa, xc, sp, sd, sk, sc, sl, su, se, c0 ++ thV (thNew fn) g na nc ++ c2, List.flatten [s0, List.flatten [ss, sf, sn], s2], sx, stb, sq⟩, ?_, ⟨h1, h2, h3, h4, h5, h6, h7, ⟨rest, ?_, h6', ?_⟩, h9, h10, h11⟩⟩
  · simp [vsegs, vhead, thNew]
  · simpa using h5'
  · have := g4 (thNew fn, g) _ _ ⟨na, nc, ss, sf, sn, rfl, rfl, (arr_zero a1), (arr_zero a2), (arr_zero a3)⟩
    have e : ((m.vs.threads ++ t0 :: rest).zip hh).set m.vs.threads.length (thNew fn, g) = (m.vs.threads ++ [thNew fn] ++ rest).zip hh := by
      have h0 := zip_set (l := m.vs.threads ++ [t0]) (rest := rest) (hh := hh) (th := m.vs.threads.length) (t := thNew fn) (g := g) (by simp)
      rw [set_same hg] at h0
      rw [show m.vs.threads ++ t0 :: rest = m.vs.threads ++ [t0] ++ rest from by simp, h0]
      congr 2
      simp
    rw [e] at this
    exact this
end
end Go.Wl
