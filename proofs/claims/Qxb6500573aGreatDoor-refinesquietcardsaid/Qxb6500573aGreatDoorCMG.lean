/- compm: mirrors: an expression, a statement. -/
import Derived.Test.Qxb6500573aGreatDoorWCmF
namespace Go.Nm
open Go Go.Sl Go.Wl Go.Proofs
set_option linter.unusedVariables false
set_option linter.unusedSimpArgs false
def evD : EvM := ⟨[], V.nil, none⟩
def rname (e : Option Nat) (t : List UInt8) (m : RnM) : Option RnM :=
  bind1 (rfind m e t) fun r => match r with
    | some i => if i < m.envs.length then rpush (m.envs.getD i evD).v m else none
    | none => if tbOk m ⟨4, 0, []⟩ then rpush (getW m.ts 0 ⟨3, 0, t⟩).1 m else none
def reval (n y : Int) (e : Option Nat) (m : RnM) : Option RnM :=
  if n = 0 then (if y = 1 then rpush ⟨2, (FloatKind.f64.nearest 1 : Nat), []⟩ m else rpush V.nil m)
  else bind1 (ndG m n) fun d =>
    if d.k = 12 then rpush V.nil m
    else if d.k = 13 then rpush ⟨1, 1, []⟩ m
    else if d.k = 14 then rpush ⟨1, 0, []⟩ m
    else if d.k = 15 then rpush ⟨2, d.n, []⟩ m
    else if d.k = 16 then rpush ⟨3, 0, d.s⟩ m
    else if d.k = 17 then rname e d.s m
    else if d.k = 18 then bind1 (rdo 28 0 0 none m) fun m1 => bind1 (rdo 2 d.b 0 e m1) fun m2 => rdo 2 d.a 0 e m2
    else if d.k = 19 then bind1 (rdo 5 0 0 none m) fun m1 => rcall n e m1
    else if d.k = 20 then (if 24 ≤ m.clos.length then some (rfin 8 [45] m) else if ∀ i, e = some i → i < m.envs.length then rpush ⟨5, m.clos.length, []⟩ { m with clos := m.clos ++ [(n, e)] } else none)
    else if d.k = 21 then (if 12 ≤ m.ts.length then some (rfin 8 [45] m) else bind1 (rpush ⟨4, m.ts.length, []⟩ { m with ts := m.ts ++ [[]] }) fun m1 => ritems d.a 1 e m1)
    else if d.k = 22 then bind1 (rdo 24 n 0 none m) fun m1 => bind1 (rdo 2 d.b 0 e m1) fun m2 => rdo 2 d.a 0 e m2
    else if d.k = 23 then bind1 (rdo 25 n 0 none m) fun m1 => rdo 2 d.a 0 e m1
    else if d.k = 24 then bind1 (rdo 26 n 0 e m) fun m1 => rdo 2 d.a 0 e m1
    else if d.k = 25 then bind1 (rdo 27 n 0 e m) fun m1 => rdo 2 d.a 0 e m1
    else some m
/-- The closures, opened. -/
theorem isRm_clos {x : RX} {eb hb : List Nat} {m : RnM} {s : Seg} (h : isRm x eb hb m s) :
    ∃ ca cc ha hc s0 s1 s2 s3 s4 A sC Z, s = List.flatten [blk x.b 142 [ptr x.nb, ptr x.tb, .slice x.na m.nodes.length x.nc, I m.root, .slice ca m.clos.length cc, .slice ha m.ths.length hc, I s0, I s1, I s2, I s3, I s4, I m.sp, I m.cur, I m.fuel, I m.first, S m.out, .bool m.done, I m.ans.e, I m.ans.n, I m.ans.m, S m.ans.s, S m.ans.t], A, sC, Z] ∧ Arr 148 2 ca m.clos.length cc (m.clos.flatMap (clV eb)) sC ∧
      ∀ (n : Int) (e : Option Nat) (ca' : Option Addr) (cc' : Nat) (sC' : Seg), eIn eb.length e → Arr 148 2 ca' (m.clos.length + 1) cc' ((m.clos ++ [(n, e)]).flatMap (clV eb)) sC' →
        isRm x eb hb { m with clos := m.clos ++ [(n, e)] } (List.flatten [blk x.b 142 [ptr x.nb, ptr x.tb, .slice x.na m.nodes.length x.nc, I m.root, .slice ca' (m.clos.length + 1) cc', .slice ha m.ths.length hc, I s0, I s1, I s2, I s3, I s4, I m.sp, I m.cur, I m.fuel, I m.first, S m.out, .bool m.done, I m.ans.e, I m.ans.n, I m.ans.m, S m.ans.s, S m.ans.t], A, sC', Z]) := by
  obtain ⟨ca, cc, ha, hc, sN, sC, sH, sT, sB, rfl, h1, h2, h3, h4, h5, h6⟩ := h
  obtain ⟨s0, s1, s2, s3, s4, hs⟩ := five h6.st
  refine ⟨ca, cc, ha, hc, s0, s1, s2, s3, s4, sN, sC, List.flatten [sH, sT, evS eb eb m.envs, sB], ?_, h2, fun n e ca' cc' sC' he hA => ⟨ca', cc', ha, hc, sN, sC', sH, sT, sB, ?_, h1, by simpa using hA, h3, h4, h5, ⟨h6.el, h6.hl, h6.tk, fun c hc => ?_, h6.ev, h6.st⟩⟩⟩
  · unfold rnV; rw [hs]; simp
  · unfold rnV; dsimp only; rw [hs]; simp
  · rcases List.mem_append.1 hc with hc | hc
    · exact h6.cl c hc
    · rw [List.mem_singleton.1 hc]; exact he
end Go.Nm
