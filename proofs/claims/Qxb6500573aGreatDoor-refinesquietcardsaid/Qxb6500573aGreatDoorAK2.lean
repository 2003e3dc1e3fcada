/- Plain: package vm, the machine's state opened and closed (made by program). -/
import Derived.Test.Qxb6500573aGreatDoorAK
namespace Go.Wl
open Go Go.Sl Go.Proofs
set_option linter.unusedVariables false
section
variable {b : VB} {ph : PH} {hh : List TH} {m : VM} {seg : Seg}
/-- The number layer. -/
theorem isVM.opnQ (hM : isVM b ph hh m seg) : ∃ r sq : Seg, seg = List.flatten [r, sq] ∧ isNum b.nb sq ∧ ∀ sq', isNum b.nb sq' → isVM b ph hh m (List.flatten [r, sq']) := by
  obtain ⟨h, rfl, hO⟩ := hM
  obtain ⟨la, lc, ua, uc, ea, ec, xa, xc, sp, sd, sk, sc, sl, su, se, cs, st, sx, stb, sq⟩ := h
  obtain ⟨h1, h2, h3, h4, h5, h6, h7, h8, h9, h10, h11⟩ := hO
  refine ⟨List.flatten [vhead b ph m ⟨la, lc, ua, uc, ea, ec, xa, xc, sp, sd, sk, sc, sl, su, se, cs, st, sx, stb, sq⟩, sp, sd, sk, sc, sl, su, se, blk b.thb 263 cs, st, sx, stb], sq, by simp, h11, fun sq' hq => ⟨⟨la, lc, ua, uc, ea, ec, xa, xc, sp, sd, sk, sc, sl, su, se, cs, st, sx, stb, sq'⟩, by simp [vsegs, vhead], ⟨h1, h2, h3, h4, h5, h6, h7, h8, h9, h10, hq⟩⟩⟩
/-- The tables. -/
theorem isVM.opnB (hM : isVM b ph hh m seg) : ∃ r stb r2 : Seg, seg = List.flatten [r, stb, r2] ∧ isTabs b.tb b.nb m.vs.tabs stb ∧ ∀ ts' stb', isTabs b.tb b.nb ts' stb' → isVM b ph hh { m with vs := { m.vs with tabs := ts' } } (List.flatten [r, stb', r2]) := by
  obtain ⟨h, rfl, hO⟩ := hM
  obtain ⟨la, lc, ua, uc, ea, ec, xa, xc, sp, sd, sk, sc, sl, su, se, cs, st, sx, stb, sq⟩ := h
  obtain ⟨h1, h2, h3, h4, h5, h6, h7, h8, h9, h10, h11⟩ := hO
  refine ⟨List.flatten [vhead b ph m ⟨la, lc, ua, uc, ea, ec, xa, xc, sp, sd, sk, sc, sl, su, se, cs, st, sx, stb, sq⟩, sp, sd, sk, sc, sl, su, se, blk b.thb 263 cs, st, sx], stb, sq, by simp, h10, fun ts' stb' hq => ⟨⟨la, lc, ua, uc, ea, ec, xa, xc, sp, sd, sk, sc, sl, su, se, cs, st, sx, stb', sq⟩, by simp [vsegs, vhead], ⟨h1, h2, h3, h4, h5, h6, h7, h8, h9, hq, h11⟩⟩⟩
/-- The fuel. -/
theorem isVM.opnF (hM : isVM b ph hh m seg) : ∃ (la ua ea xa : Option Addr) (lc uc ec xc : Nat) (r : Seg), seg = List.flatten [blk b.vb 115 [pt b.nb, pt b.tb, .slice ph.pa m.pg.protos.length ph.pc, .slice ph.da m.pg.descs.length ph.dc, .slice ph.ka m.pg.consts.length ph.kc, .slice ph.ca m.pg.code.length ph.cc, .slice la m.vs.clos.length lc, .slice ua m.vs.upix.length uc, .slice ea m.vs.cells.length ec, .slice (some ⟨b.thb, 0, none⟩) m.vs.threads.length 5, I m.vs.fuel, .slice xa m.vs.out.length xc, I m.ended], r] ∧ ∀ fuel', isVM b ph hh { m with vs := { m.vs with fuel := fuel' } } (List.flatten [blk b.vb 115 [pt b.nb, pt b.tb, .slice ph.pa m.pg.protos.length ph.pc, .slice ph.da m.pg.descs.length ph.dc, .slice ph.ka m.pg.consts.length ph.kc, .slice ph.ca m.pg.code.length ph.cc, .slice la m.vs.clos.length lc, .slice ua m.vs.upix.length uc, .slice ea m.vs.cells.length ec, .slice (some ⟨b.thb, 0, none⟩) m.vs.threads.length 5, I fuel', .slice xa m.vs.out.length xc, I m.ended], r]) := by
  obtain ⟨h, rfl, hO⟩ := hM
  obtain ⟨la, lc, ua, uc, ea, ec, xa, xc, sp, sd, sk, sc, sl, su, se, cs, st, sx, stb, sq⟩ := h
  obtain ⟨h1, h2, h3, h4, h5, h6, h7, h8, h9, h10, h11⟩ := hO
  refine ⟨la, ua, ea, xa, lc, uc, ec, xc, List.flatten [sp, sd, sk, sc, sl, su, se, blk b.thb 263 cs, st, sx, stb, sq], by simp, fun fuel' => ⟨⟨la, lc, ua, uc, ea, ec, xa, xc, sp, sd, sk, sc, sl, su, se, cs, st, sx, stb, sq⟩, by simp [vsegs, vhead], ⟨h1, h2, h3, h4, h5, h6, h7, h8, h9, h10, h11⟩⟩⟩
/-- The output. -/
theorem isVM.opnO (hM : isVM b ph hh m seg) : ∃ (la ua ea xa : Option Addr) (lc uc ec xc : Nat) (r sx r2 : Seg), seg = List.flatten [blk b.vb 115 [pt b.nb, pt b.tb, .slice ph.pa m.pg.protos.length ph.pc, .slice ph.da m.pg.descs.length ph.dc, .slice ph.ka m.pg.consts.length ph.kc, .slice ph.ca m.pg.code.length ph.cc, .slice la m.vs.clos.length lc, .slice ua m.vs.upix.length uc, .slice ea m.vs.cells.length ec, .slice (some ⟨b.thb, 0, none⟩) m.vs.threads.length 5, I m.vs.fuel, .slice xa m.vs.out.length xc, I m.ended], r, sx, r2] ∧ Arr 5 1 xa m.vs.out.length xc (bytesV m.vs.out) sx ∧ ∀ out' xa' xc' sx', Arr 5 1 xa' out'.length xc' (bytesV out') sx' → isVM b ph hh { m with vs := { m.vs with out := out' } } (List.flatten [blk b.vb 115 [pt b.nb, pt b.tb, .slice ph.pa m.pg.protos.length ph.pc, .slice ph.da m.pg.descs.length ph.dc, .slice ph.ka m.pg.consts.length ph.kc, .slice ph.ca m.pg.code.length ph.cc, .slice la m.vs.clos.length lc, .slice ua m.vs.upix.length uc, .slice ea m.vs.cells.length ec, .slice (some ⟨b.thb, 0, none⟩) m.vs.threads.length 5, I m.vs.fuel, .slice xa' out'.length xc', I m.ended], r, sx', r2]) := by
  obtain ⟨h, rfl, hO⟩ := hM
  obtain ⟨la, lc, ua, uc, ea, ec, xa, xc, sp, sd, sk, sc, sl, su, se, cs, st, sx, stb, sq⟩ := h
  obtain ⟨h1, h2, h3, h4, h5, h6, h7, h8, h9, h10, h11⟩ := hO
  refine ⟨la, ua, ea, xa, lc, uc, ec, xc, List.flatten [sp, sd, sk, sc, sl, su, se, blk b.thb 263 cs, st], sx, List.flatten [stb, sq], by simp, h9, fun out' xa' xc' sx' hq => ⟨⟨la, lc, ua, uc, ea, ec, xa', xc', sp, sd, sk, sc, sl, su, se, cs, st, sx', stb, sq⟩, by simp [vsegs, vhead], ⟨h1, h2, h3, h4, h5, h6, h7, h8, hq, h10, h11⟩⟩⟩
/-- The closures' upvalues. -/
theorem isVM.opnU (hM : isVM b ph hh m seg) : ∃ (la ua ea xa : Option Addr) (lc uc ec xc : Nat) (r su r2 : Seg), seg = List.flatten [blk b.vb 115 [pt b.nb, pt b.tb, .slice ph.pa m.pg.protos.length ph.pc, .slice ph.da m.pg.descs.length ph.dc, .slice ph.ka m.pg.consts.length ph.kc, .slice ph.ca m.pg.code.length ph.cc, .slice la m.vs.clos.length lc, .slice ua m.vs.upix.length uc, .slice ea m.vs.cells.length ec, .slice (some ⟨b.thb, 0, none⟩) m.vs.threads.length 5, I m.vs.fuel, .slice xa m.vs.out.length xc, I m.ended], r, su, r2] ∧ Arr 3 1 ua m.vs.upix.length uc (m.vs.upix.map I) su ∧ ∀ up' ua' uc' su', Arr 3 1 ua' up'.length uc' (up'.map I) su' → isVM b ph hh { m with vs := { m.vs with upix := up' } } (List.flatten [blk b.vb 115 [pt b.nb, pt b.tb, .slice ph.pa m.pg.protos.length ph.pc, .slice ph.da m.pg.descs.length ph.dc, .slice ph.ka m.pg.consts.length ph.kc, .slice ph.ca m.pg.code.length ph.cc, .slice la m.vs.clos.length lc, .slice ua' up'.length uc', .slice ea m.vs.cells.length ec, .slice (some ⟨b.thb, 0, none⟩) m.vs.threads.length 5, I m.vs.fuel, .slice xa m.vs.out.length xc, I m.ended], r, su', r2]) := by
  obtain ⟨h, rfl, hO⟩ := hM
  obtain ⟨la, lc, ua, uc, ea, ec, xa, xc, sp, sd, sk, sc, sl, su, se, cs, st, sx, stb, sq⟩ := h
  obtain ⟨h1, h2, h3, h4, h5, h6, h7, h8, h9, h10, h11⟩ := hO
  refine ⟨la, ua, ea, xa, lc, uc, ec, xc, List.flatten [sp, sd, sk, sc, sl], su, List.flatten [se, blk b.thb 263 cs, st, sx, stb, sq], by simp, h6, fun up' ua' uc' su' hq => ⟨⟨la, lc, ua', uc', ea, ec, xa, xc, sp, sd, sk, sc, sl, su', se, cs, st, sx, stb, sq⟩, by simp [vsegs, vhead], ⟨h1, h2, h3, h4, h5, hq, h7, h8, h9, h10, h11⟩⟩⟩
/-- The closures. -/
theorem isVM.opnL (hM : isVM b ph hh m seg) : ∃ (la ua ea xa : Option Addr) (lc uc ec xc : Nat) (r sl r2 : Seg), seg = List.flatten [blk b.vb 115 [pt b.nb, pt b.tb, .slice ph.pa m.pg.protos.length ph.pc, .slice ph.da m.pg.descs.length ph.dc, .slice ph.ka m.pg.consts.length ph.kc, .slice ph.ca m.pg.code.length ph.cc, .slice la m.vs.clos.length lc, .slice ua m.vs.upix.length uc, .slice ea m.vs.cells.length ec, .slice (some ⟨b.thb, 0, none⟩) m.vs.threads.length 5, I m.vs.fuel, .slice xa m.vs.out.length xc, I m.ended], r, sl, r2] ∧ Arr 181 3 la m.vs.clos.length lc (m.vs.clos.flatMap clV) sl ∧ ∀ cl' la' lc' sl', Arr 181 3 la' cl'.length lc' (cl'.flatMap clV) sl' → isVM b ph hh { m with vs := { m.vs with clos := cl' } } (List.flatten [blk b.vb 115 [pt b.nb, pt b.tb, .slice ph.pa m.pg.protos.length ph.pc, .slice ph.da m.pg.descs.length ph.dc, .slice ph.ka m.pg.consts.length ph.kc, .slice ph.ca m.pg.code.length ph.cc, .slice la' cl'.length lc', .slice ua m.vs.upix.length uc, .slice ea m.vs.cells.length ec, .slice (some ⟨b.thb, 0, none⟩) m.vs.threads.length 5, I m.vs.fuel, .slice xa m.vs.out.length xc, I m.ended], r, sl', r2]) := by
  obtain ⟨h, rfl, hO⟩ := hM
  obtain ⟨la, lc, ua, uc, ea, ec, xa, xc, sp, sd, sk, sc, sl, su, se, cs, st, sx, stb, sq⟩ := h
  obtain ⟨h1, h2, h3, h4, h5, h6, h7, h8, h9, h10, h11⟩ := hO
  refine ⟨la, ua, ea, xa, lc, uc, ec, xc, List.flatten [sp, sd, sk, sc], sl, List.flatten [su, se, blk b.thb 263 cs, st, sx, stb, sq], by simp, h5, fun cl' la' lc' sl' hq => ⟨⟨la', lc', ua, uc, ea, ec, xa, xc, sp, sd, sk, sc, sl', su, se, cs, st, sx, stb, sq⟩, by simp [vsegs, vhead], ⟨h1, h2, h3, h4, hq, h6, h7, h8, h9, h10, h11⟩⟩⟩
theorem zip_set {l rest : List Th} {hh : List TH} {th : Nat} {t : Th} {g : TH} (h : th < l.length) : ((l ++ rest).zip hh).set th (t, g) = (l.set th t ++ rest).zip (hh.set th g) := by
  rw [show l.set th t ++ rest = (l ++ rest).set th t from (List.set_append_left _ _ h).symm]
  apply List.ext_getElem?
  intro i
  rw [List.getElem?_set]
  by_cases e : th = i
  · subst e
    rw [if_pos rfl]
    split
    · rename_i hl
      rw [List.length_zip] at hl
      symm
      rw [List.getElem?_zip_eq_some]
      refine ⟨?_, ?_⟩
      · show ((l ++ rest).set th t)[th]? = some t
        rw [List.getElem?_set_self (by omega)]
      · show (hh.set th g)[th]? = some g
        rw [List.getElem?_set_self (by omega)]
    · rename_i hl
      rw [List.getElem?_eq_none (by simpa using hl)]
  · rw [if_neg e]
    unfold List.zip
    rw [List.getElem?_zipWith, List.getElem?_zipWith, List.getElem?_set_ne e, List.getElem?_set_ne e]
def setTh (m : VM) (th : Nat) (t : Th) : VM := { m with vs := { m.vs with threads := m.vs.threads.set th t } }
abbrev trow (t : Th) (g : TH) (na : Option Addr) (nc : Nat) : List Value := [I t.st, I t.fn, .slice g.sa t.stack.length g.sc, .slice g.fa t.frames.length g.fc, .slice na t.opn.length nc]
/-- A thread, and the cells. -/
theorem isVM.opnC (hM : isVM b ph hh m seg) {th : Nat} {t : Th} {g : TH} (ht : m.vs.threads[th]? = some t) (hg : hh[th]? = some g) : ∃ (la ua ea xa na : Option Addr) (lc uc ec xc nc : Nat) (r se ss sf sn s0 s2 : Seg) (c0 c2 : List Value),
    seg = List.flatten [blk b.vb 115 [pt b.nb, pt b.tb, .slice ph.pa m.pg.protos.length ph.pc, .slice ph.da m.pg.descs.length ph.dc, .slice ph.ka m.pg.consts.length ph.kc, .slice ph.ca m.pg.code.length ph.cc, .slice la m.vs.clos.length lc, .slice ua m.vs.upix.length uc, .slice ea m.vs.cells.length ec, .slice (some ⟨b.thb, 0, none⟩) m.vs.threads.length 5, I m.vs.fuel, .slice xa m.vs.out.length xc, I m.ended], r, se, blk b.thb 263 (c0 ++ [I t.st, I t.fn, .slice g.sa t.stack.length g.sc, .slice g.fa t.frames.length g.fc, .slice na t.opn.length nc] ++ c2), s0, ss, sf, sn, s2] ∧ c0.length = 0 + th * 5 ∧ Arr 287 5 ea m.vs.cells.length ec (m.vs.cells.flatMap ceV) se ∧
    Arr 42 3 g.sa t.stack.length g.sc (t.stack.flatMap valV) ss ∧ Arr 331 5 g.fa t.frames.length g.fc (t.frames.flatMap frV) sf ∧ Arr 3 1 na t.opn.length nc (t.opn.map I) sn ∧
    (∀ (cells' : List Ce) (t' : Th) (g' : TH) (ea' : Option Addr) (ec' : Nat) (na' : Option Addr) (nc' : Nat) (se' ss' sf' sn' : Seg), Arr 287 5 ea' cells'.length ec' (cells'.flatMap ceV) se' → Arr 42 3 g'.sa t'.stack.length g'.sc (t'.stack.flatMap valV) ss' → Arr 331 5 g'.fa t'.frames.length g'.fc (t'.frames.flatMap frV) sf' → Arr 3 1 na' t'.opn.length nc' (t'.opn.map I) sn' →
      isVM b ph (hh.set th g') (setTh { m with vs := { m.vs with cells := cells' } } th t') (List.flatten [blk b.vb 115 [pt b.nb, pt b.tb, .slice ph.pa m.pg.protos.length ph.pc, .slice ph.da m.pg.descs.length ph.dc, .slice ph.ka m.pg.consts.length ph.kc, .slice ph.ca m.pg.code.length ph.cc, .slice la m.vs.clos.length lc, .slice ua m.vs.upix.length uc, .slice ea' cells'.length ec', .slice (some ⟨b.thb, 0, none⟩) m.vs.threads.length 5, I m.vs.fuel, .slice xa m.vs.out.length xc, I m.ended], r, se', blk b.thb 263 (c0 ++ [I t'.st, I t'.fn, .slice g'.sa t'.stack.length g'.sc, .slice g'.fa t'.frames.length g'.fc, .slice na' t'.opn.length nc'] ++ c2), s0, ss', sf', sn', s2])) := by
  obtain ⟨h, rfl, hO⟩ := hM
  obtain ⟨la, lc, ua, uc, ea, ec, xa, xc, sp, sd, sk, sc, sl, su, se, cs, st, sx, stb, sq⟩ := h
  obtain ⟨h1, h2, h3, h4, h5, h6, h7, ⟨rest, h5', h6', hR⟩, h9, h10, h11⟩ := hO
  have hth := (List.getElem?_eq_some_iff.1 ht).1
  have hz := zip_at (rest := rest) ht hg
  obtain ⟨hk, he⟩ := List.getElem?_eq_some_iff.1 hz
  obtain ⟨c0, ci, c2, s0, si, s2, e7, e8, g1, g2, g3, g4⟩ := hR.split thR_len hk
  rw [he] at g3
  obtain ⟨na, nc, ss, sf, sn, rfl, rfl, a1, a2, a3⟩ := g3
  dsimp only at e7 e8
  subst e7 e8
  refine ⟨la, ua, ea, xa, na, lc, uc, ec, xc, nc, List.flatten [sp, sd, sk, sc, sl, su], se, ss, sf, sn, s0, List.flatten [s2, sx, stb, sq], c0, c2, by simp, by omega, h7, a1, a2, a3, ?_⟩
  intro cells' t' g' ea' ec' na' nc' se' ss' sf' sn' k3 k6 k7 k8
  refine ⟨⟨la, lc, ua, uc, ea', ec', xa, xc, sp, sd, sk, sc, sl, su, se', c0 ++ thV t' g' na' nc' ++ c2, List.flatten [s0, List.flatten [ss', sf', sn'], s2], sx, stb, sq⟩, ?_, ⟨h1, h2, h3, h4, h5, h6, k3, ⟨rest, ?_, ?_, ?_⟩, h9, h10, h11⟩⟩
  · simp [vsegs, vhead, setTh]
  · simpa [setTh] using h5'
  · simpa using h6'
  · show Rws thR ((m.vs.threads.set th t' ++ rest).zip (hh.set th g')) _ _
    rw [← zip_set hth]
    exact g4 (t', g') _ _ ⟨na', nc', ss', sf', sn', rfl, rfl, k6, k7, k8⟩
/-- A thread alone. -/
theorem isVM.opnT (hM : isVM b ph hh m seg) {th : Nat} {t : Th} {g : TH} (ht : m.vs.threads[th]? = some t) (hg : hh[th]? = some g) : ∃ (na : Option Addr) (nc : Nat) (r ss sf sn s0 s2 : Seg) (c0 c2 : List Value),
    seg = List.flatten [r, blk b.thb 263 (c0 ++ [I t.st, I t.fn, .slice g.sa t.stack.length g.sc, .slice g.fa t.frames.length g.fc, .slice na t.opn.length nc] ++ c2), s0, ss, sf, sn, s2] ∧ c0.length = 0 + th * 5 ∧
    Arr 42 3 g.sa t.stack.length g.sc (t.stack.flatMap valV) ss ∧ Arr 331 5 g.fa t.frames.length g.fc (t.frames.flatMap frV) sf ∧ Arr 3 1 na t.opn.length nc (t.opn.map I) sn ∧
    (∀ (t' : Th) (g' : TH) (na' : Option Addr) (nc' : Nat) (ss' sf' sn' : Seg), Arr 42 3 g'.sa t'.stack.length g'.sc (t'.stack.flatMap valV) ss' → Arr 331 5 g'.fa t'.frames.length g'.fc (t'.frames.flatMap frV) sf' → Arr 3 1 na' t'.opn.length nc' (t'.opn.map I) sn' →
      isVM b ph (hh.set th g') (setTh m th t') (List.flatten [r, blk b.thb 263 (c0 ++ [I t'.st, I t'.fn, .slice g'.sa t'.stack.length g'.sc, .slice g'.fa t'.frames.length g'.fc, .slice na' t'.opn.length nc'] ++ c2), s0, ss', sf', sn', s2])) := by
  obtain ⟨la, ua, ea, xa, na, lc, uc, ec, xc, nc, r, se, ss, sf, sn, s0, s2, c0, c2, rfl, hp, hce, a1, a2, a3, hput⟩ := hM.opnC ht hg
  refine ⟨na, nc, List.flatten [blk b.vb 115 [pt b.nb, pt b.tb, .slice ph.pa m.pg.protos.length ph.pc, .slice ph.da m.pg.descs.length ph.dc, .slice ph.ka m.pg.consts.length ph.kc, .slice ph.ca m.pg.code.length ph.cc, .slice la m.vs.clos.length lc, .slice ua m.vs.upix.length uc, .slice ea m.vs.cells.length ec, .slice (some ⟨b.thb, 0, none⟩) m.vs.threads.length 5, I m.vs.fuel, .slice xa m.vs.out.length xc, I m.ended], r, se], ss, sf, sn, s0, s2, c0, c2, by simp, hp, a1, a2, a3, fun t' g' na' nc' ss' sf' sn' k1 k2 k3 => ?_⟩
  have := hput m.vs.cells t' g' ea ec na' nc' se ss' sf' sn' hce k1 k2 k3
  simpa using this
theorem set_same {hh : List TH} {th : Nat} {g : TH} (hg : hh[th]? = some g) : hh.set th g = hh := by
  obtain ⟨h1, h2⟩ := List.getElem?_eq_some_iff.1 hg
  rw [← h2, List.set_getElem_self]
end
end Go.Wl
