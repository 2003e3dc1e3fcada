/- Plain: package comp, the image. -/
import Derived.Test.Qxb6500573aGreatDoorWCompJ
namespace Go.Wl
open Go Go.Sl Go.Proofs
set_option linter.unusedVariables false
def u8V (i : Int) : Value := .int .u8 i
def shrK (k : IntKind) (x j : Int) : Int := x.fdiv (2 ^ (min j.toNat k.bits))
def toB (i : Int) : UInt8 := UInt8.ofNat i.toNat
def p16 (x : Int) : List Int := [u8 x, u8 (shrK .i64 x 8)]
def numB (n : Int) (i : Nat) : Int := u8 (shrK .u64 n (8 * (i : Int)))
def layC (v : V) : List Int := if v.t = 2 then 1 :: (List.range 8).map (numB v.n) else 2 :: u8 v.s.length :: v.s.map (fun c => (c.toNat : Int))
def layI (i : In) : List Int := [i.1, u8 i.2, u8 (shrK .u16 i.2 8)]
def layU (d : Int × Int) : List Int := [d.1, d.2]
def layFn (f : Fs) : List Int := [u8 f.nparams, u8 f.nslots, u8 f.ups.length] ++ f.ups.flatMap layU ++ p16 f.consts.length ++ f.consts.flatMap layC ++ p16 f.code.length ++ f.code.flatMap layI
def layM (s : CS) : List Int := [u8 s.np] ++ (s.fs.take s.np.toNat).flatMap layFn
def layOk (f : Fs) : Bool := decide (f.ups.length < 1000000 ∧ f.consts.length < 1000000 ∧ f.code.length < 1000000) && f.consts.all (fun v => decide (v.s.length < 1000000))
def imageM (s : CS) : Option (List UInt8) := if (0 ≤ s.np ∧ s.np ≤ 13) ∧ (s.fs.take s.np.toNat).all layOk = true ∧ (layM s).all (fun b => decide (0 ≤ b ∧ b < 256)) = true then some ((layM s).map toB) else none
theorem bytes_of {l : List Int} (h : l.all (fun b => decide (0 ≤ b ∧ b < 256)) = true) : l.map u8V = bytesV (l.map toB) := by
  induction l with
  | nil => rfl
  | cons x l ih =>
    rw [List.all_cons, Bool.and_eq_true] at h
    have hx := of_decide_eq_true h.1
    rw [List.map_cons, ih h.2]
    simp only [List.map_cons, bytesV]
    congr 1
    unfold u8V toB
    congr 1
    rw [UInt8.toNat_ofNat']
    omega
theorem fns_open {cb fb : Nat} {fs : List Fs} {cs : List Value} {st : Seg} {k : Nat} {f : Fs} (hR : Rws (fnR cb fb) fs cs st) (hf : fs[k]? = some f) :
    ∃ (cv pv mn ms : Value) (la : Option Addr) (lc : Nat) (ua : Option Addr) (uc : Nat) (ka : Option Addr) (kc : Nat) (oa : Option Addr) (oc : Nat) (qa : Option Addr) (qc : Nat) (ls us ks sn ss os qs ql : Seg) (c0 c2 : List Value) (s0 s2 : Seg),
      cs = c0 ++ [cv, pv, I f.nparams, .slice la f.locals.length lc, I f.nslots, .slice ua f.ups.length uc, .slice ka f.consts.length kc, mn, ms, .slice oa f.code.length oc, .slice qa f.loops.length qc] ++ c2 ∧ st = List.flatten [s0, ls, us, ks, sn, ss, os, qs, ql, s2] ∧ c0.length = 0 + k * 11 ∧
      Arr 159 2 ua f.ups.length uc (f.ups.flatMap upV) us ∧ Arr 42 3 ka f.consts.length kc (f.consts.flatMap valV) ks ∧ Arr 99 2 oa f.code.length oc (f.code.flatMap insV) os := by
  obtain ⟨hk, he⟩ := List.getElem?_eq_some_iff.1 hf
  obtain ⟨c0, ci, c2, s0, si, s2, rfl, rfl, h1, h2, h3, h4⟩ := hR.split (fnR_len _ _) hk
  rw [he] at h3
  obtain ⟨h, rfl, rfl, hF⟩ := h3
  obtain ⟨la, lc, ua, uc, ka, kc, oa, oc, qa, qc, mn, ms, cv, pv, ls, us, ks, sn, ss, os, qs, ql⟩ := h
  obtain ⟨g1, g2, g3, g4, ⟨lcs, g5, g6⟩, g7⟩ := hF
  exact ⟨cv, pv, mn, ms, la, lc, ua, uc, ka, kc, oa, oc, qa, qc, ls, us, ks, sn, ss, os, qs, ql, c0, c2, s0, s2, rfl, by simp, by omega, g2, g3, g4⟩
/-- The compiler at rest. -/
abbrev crest (cb fb : Nat) (pv dv : Value) (np : Int) (ba : Option Addr) (bl bc : Nat) : Seg := blk cb 69 [pv, dv, .slice none 0 0, .slice (some ⟨fb, 0, none⟩) 13 13, I np, .slice ba bl bc]
def isCr (cb fb : Nat) (pv dv : Value) (s : CS) (buf : List Int) (seg : Seg) : Prop := ∃ cs st ba bc sb, seg = List.flatten [crest cb fb pv dv s.np ba buf.length bc, blk fb 96 cs, st, sb] ∧ Rws (fnR cb fb) s.fs cs st ∧ s.fs.length = 13 ∧ (0 ≤ s.np ∧ s.np ≤ 1000) ∧ Arr 5 1 ba buf.length bc (buf.map u8V) sb
end Go.Wl
