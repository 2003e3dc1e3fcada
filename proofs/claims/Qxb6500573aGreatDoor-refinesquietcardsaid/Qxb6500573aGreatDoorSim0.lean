/- Plain: the interpreter and the machine go on together: helpers. -/
import Derived.Test.Qxb6500573aGreatDoorSO
namespace Go.Wl
open Go Go.Sl Go.Proofs
set_option linter.unusedVariables false
section
variable {ns : List Nd} {P : List Fs}
theorem levS.le {x base : Nat} {L : List Nm8} {pc pc' : Nat} (h : levS P x base L pc pc') : pc ≤ pc' := by
  unfold levS at h
  split at h
  · omega
  · omega
theorem Sp.reg {k : SK} {lo hi x : Nat} {E : Sco} {L : List Nm8} {pc pc' : Nat} {n : Int} (h : Sp ns P k lo hi x E L pc n pc') : lo ≤ hi ∧ pc ≤ pc' ∧ (k = .ex → pc < pc') := by
  induction h with
  | ife hl hd hk h1 i1 h2 v2 i2 h3 v3 a1 a2 a3 => have := v2.le; have := v3.le; exact ⟨by omega, by omega, fun q => by cases q⟩
  | whl hl hd hk h1 i1 h2 v2 i2 a1 a2 => have := v2.le; exact ⟨by omega, by omega, fun q => by cases q⟩
  | for2 hl hd hk hs hda hdl h1 i1 h2 i2 hn i3 hc hr hb hv a1 a2 a3 => have := hv.le; exact ⟨by omega, by omega, fun q => by cases q⟩
  | for3 hl hd hk hs hda hdl h1 i1 h2 i2 hn h3 hr hb hv a1 a2 a3 a4 => have := hv.le; exact ⟨by omega, by omega, fun q => by cases q⟩
  | forIn hlo hl hd hk hdk hdv hs h1 hr hb hv a1 a2 => have := hv.le; exact ⟨by omega, by omega, fun q => by cases q⟩
  | brk hl hd hk hv i => have := hv.le; exact ⟨by omega, by omega, fun q => by cases q⟩
  | table hl hd hk i h a1 => exact ⟨by omega, by omega, fun q => by omega⟩
  | log hl hd hk h1 i h2 a1 a2 => have := a1.2.2 rfl; exact ⟨by omega, by omega, fun q => by omega⟩
  | _ => exact ⟨by omega, by omega, fun q => by first | omega | cases q⟩
theorem Sp.pre {k : SK} {lo hi x : Nat} {E : Sco} {L : List Nm8} {pc pc' : Nat} {n : Int} (h : Sp ns P k lo hi x E L pc n pc') : ∀ br L', (k = .st br L' ∨ k = .sts br L') → L <+: L' := by
  induction h with
  | loc0 | loc1 | loc2 | locFn =>
    intro br L' q
    rcases q with q | q
    · injection q with _ q; subst q; exact List.prefix_append _ _
    · cases q
  | snil =>
    intro br L' q
    rcases q with q | q
    · cases q
    · injection q with _ q; subst q; exact List.prefix_refl _
  | scons hm hd h1 h2 a1 a2 =>
    intro br L' q
    rcases q with q | q
    · cases q
    · injection q with q1 q2; subst q1 q2; exact (a1 _ _ (.inl rfl)).trans (a2 _ _ (.inr rfl))
  | asgN | asgI | callS | ife | whl | for2 | for3 | forIn | ret | brk =>
    intro br L' q
    rcases q with q | q
    · injection q with _ q; subst q; exact List.prefix_refl _
    · cases q
  | _ =>
    intro br L' q
    rcases q with q | q <;> cases q
end
end Go.Wl
namespace Go.Sm
open Go Go.Sl Go.Wl Go.Nm Go.Proofs
set_option linter.unusedVariables false
section
variable (n x : Int) (e : Option Nat) (d : Nd) (m : RnM)
theorem rt1 : rtask ⟨1, n, x, e⟩ d m = if n ≠ 0 then rstmt n e m else some m := rfl
theorem rt2 : rtask ⟨2, n, x, e⟩ d m = reval n x e m := rfl
theorem rt4 : rtask ⟨4, n, x, e⟩ d m = some m := rfl
theorem rt5 : rtask ⟨5, n, x, e⟩ d m = bind2 (rpop m) fun _ m1 => some m1 := rfl
theorem rt6 : rtask ⟨6, n, x, e⟩ d m = k6 d e m := rfl
theorem rt7 : rtask ⟨7, n, x, e⟩ d m = k7 d e m := rfl
theorem rt8 : rtask ⟨8, n, x, e⟩ d m = k8 d e m := rfl
theorem rt9 : rtask ⟨9, n, x, e⟩ d m = k9 d e m := rfl
theorem rt10 : rtask ⟨10, n, x, e⟩ d m = k10 m := rfl
theorem rt11 : rtask ⟨11, n, x, e⟩ d m = bind2 (rpop m) fun c m1 => (if truthy c = true then rdo 1 d.b 0 e m1 else rdo 1 d.c 0 e m1) := rfl
theorem rt12 : rtask ⟨12, n, x, e⟩ d m = bind1 (rdo 13 n 0 e m) fun m1 => rdo 2 d.a 0 e m1 := rfl
theorem rt13 : rtask ⟨13, n, x, e⟩ d m = bind2 (rpop m) fun c m1 => (if truthy c = true then bind1 (rdo 14 n 0 e m1) fun m2 => rdo 1 d.b 0 e m2 else some m1) := rfl
theorem rt14 : rtask ⟨14, n, x, e⟩ d m = kBack 12 ⟨14, n, x, e⟩ m := rfl
theorem rt15 : rtask ⟨15, n, x, e⟩ d m = k15 ⟨15, n, x, e⟩ m := rfl
theorem rt16 : rtask ⟨16, n, x, e⟩ d m = k16 ⟨16, n, x, e⟩ d m := rfl
theorem rt17 : rtask ⟨17, n, x, e⟩ d m = k17 ⟨17, n, x, e⟩ m := rfl
theorem rt18 : rtask ⟨18, n, x, e⟩ d m = k18 ⟨18, n, x, e⟩ m := rfl
theorem rt19 : rtask ⟨19, n, x, e⟩ d m = k19 ⟨19, n, x, e⟩ d m := rfl
theorem rt20 : rtask ⟨20, n, x, e⟩ d m = kBack 19 ⟨20, n, x, e⟩ m := rfl
theorem rt21 : rtask ⟨21, n, x, e⟩ d m = bind2 (rpop m) fun b m1 => bind2 (rpop m1) fun a m2 => rret a b m2 := rfl
theorem rt22 : rtask ⟨22, n, x, e⟩ d m = rapply x m := rfl
theorem rt23 : rtask ⟨23, n, x, e⟩ d m = k23 ⟨23, n, x, e⟩ d m := rfl
theorem rt24 : rtask ⟨24, n, x, e⟩ d m = bind2 (rpop m) fun b m1 => bind2 (rpop m1) fun a m2 => (if 0 ≤ d.n ∧ d.n < 1000000 then rbin d.n a b m2 else none) := rfl
theorem rt25 : rtask ⟨25, n, x, e⟩ d m = bind2 (rpop m) fun a m1 => (if 0 ≤ d.n ∧ d.n < 1000000 then run1 d.n a m1 else none) := rfl
theorem rt26 : rtask ⟨26, n, x, e⟩ d m = bind1 (vTop 1 m) fun v => (if truthy v = true then bind2 (rpop m) fun _ m1 => rdo 2 d.b 0 e m1 else some m) := rfl
theorem rt27 : rtask ⟨27, n, x, e⟩ d m = bind1 (vTop 1 m) fun v => (if truthy v = false then bind2 (rpop m) fun _ m1 => rdo 2 d.b 0 e m1 else some m) := rfl
theorem rt28 : rtask ⟨28, n, x, e⟩ d m = k28 m := rfl
end
/-- The interpreter at an expression that is a node. -/
def evB (n : Int) (e : Option Nat) (d : Nd) (m : RnM) : Option RnM :=
    if d.k = 12 then rpush V.nil m
    else if d.k = 13 then rpush ⟨1, 1, []⟩ m
    else if d.k = 14 then rpush ⟨1, 0, []⟩ m
    else if d.k = 15 then rpush ⟨2, d.n, []⟩ m
    else if d.k = 16 then rpush ⟨3, 0, d.s⟩ m
    else if d.k = 17 then rname e d.s m
    else if d.k = 18 then bind1 (rdo 28 0 0 none m) fun m1 => bind1 (rdo 2 d.b 0 e m1) fun m2 => rdo 2 d.a 0 e m2
    else if d.k = 19 then bind1 (rdo 5 0 0 none m) fun m1 => rcall n e m1
    else if d.k = 20 then (if 24 ≤ m.clos.length then some (rfin 8 [45] m) else if ∀ i, e = some i → i < m.envs.length then rpush ⟨5, m.clos.length, []⟩ { m with clos := m.clos ++ [(n, e)] } else none)
    else if d.k = 21 then (if 12 ≤ m.ts.length then some (rfin 8 [45] m) else bind1 (rpush ⟨4, m.ts.length, []⟩ { m with ts := m.ts ++ [[]] }) fun m1 => ritems d.a 1 e m1)
    else if d.k = 22 then bind1 (rdo 24 n 0 none m) fun m1 => bind1 (rdo 2 d.b 0 e m1) fun m2 => rdo 2 d.a 0 e m2
    else if d.k = 23 then bind1 (rdo 25 n 0 none m) fun m1 => rdo 2 d.a 0 e m1
    else if d.k = 24 then bind1 (rdo 26 n 0 e m) fun m1 => rdo 2 d.a 0 e m1
    else if d.k = 25 then bind1 (rdo 27 n 0 e m) fun m1 => rdo 2 d.a 0 e m1
    else some m
theorem reval_at {n y : Int} {e : Option Nat} {d : Nd} {m : RnM} (hn : n ≠ 0) (hd : ndG m n = some d) : reval n y e m = evB n e d m := by
  unfold reval
  rw [if_neg hn, hd]
  rfl
section
variable {K : Cn} {s : RnM} {m : VM} {S : List Nat} {cn : Int} {ρ : Nat → Option Plc} {fi : Nat → List FI} {c : Cx} {t : Th} {l : List FI} {F : FI} {Tk : List TkM} {W low ops : List V}
theorem Vw.ev (Y : Vw K s m S cn ρ fi c t l F Tk W low ops) {hi : Nat} {y : Int} {e : Option Nat} {d : Nd} {T : List TkM} {s' : RnM} (hT : F.T = ⟨2, (hi : Int), y, e⟩ :: T) (hn : 0 < hi) (hd : K.ns[hi]? = some d) (h : evB hi e d (Go.Sm.ms s (T ++ Tk) (W ++ (hidV low F.B F.L ++ ops))) = some s') : MS s s' := by
  refine Y.task hT (by intro q; cases q) (Y.nd (nd_pos hd)) ?_
  rw [rt2]
  exact (reval_at (m := Go.Sm.ms s (T ++ Tk) (W ++ (hidV low F.B F.L ++ ops))) (by omega) (Y.nd (nd_pos hd))).trans h
/-- A value on top. -/
theorem Vw.push (Y : Vw K s m S cn ρ fi c t l F Tk W low ops) {T : List TkM} {ops' : List V} (v : V) (ho : ops'.length ≤ ops.length) : rpush v (Go.Sm.ms s T (W ++ (hidV low F.B F.L ++ ops'))) = some (Go.Sm.ms s T (W ++ (hidV low F.B F.L ++ (ops' ++ [v])))) := by
  have := Y.base
  rw [ms_push Y.cur v (by simp only [List.length_append]; omega)]
  simp only [List.append_assoc]
theorem Vw.pop (Y : Vw K s m S cn ρ fi c t l F Tk W low ops) {T : List TkM} {ops' : List V} (v : V) (ho : ops'.length + 1 ≤ ops.length) : rpop (Go.Sm.ms s T (W ++ (hidV low F.B F.L ++ (ops' ++ [v])))) = some (v, Go.Sm.ms s T (W ++ (hidV low F.B F.L ++ ops'))) := by
  have := Y.base
  rw [← List.append_assoc, ← List.append_assoc, ms_pop Y.cur v (by simp only [List.length_append]; omega), List.append_assoc]
/-- Operands that are there. -/
theorem Vw.top1 (Y : Vw K s m S cn ρ fi c t l F Tk W low ops) (h : c.O + 1 ≤ t.stack.length) : ∃ ops' v, ops = ops' ++ [v] := by
  have h1 : 1 ≤ ops.length := by
    have := Y.hO
    rw [Y.sk, List.length_append] at h
    omega
  exact ⟨ops.dropLast, ops.getLast (fun q => by rw [q] at h1; simp at h1), (List.dropLast_concat_getLast _).symm⟩
theorem Vw.top2 (Y : Vw K s m S cn ρ fi c t l F Tk W low ops) (h : c.O + 2 ≤ t.stack.length) : ∃ ops' a b, ops = ops' ++ [a] ++ [b] := by
  obtain ⟨o1, b, h1⟩ := Y.top1 (by omega)
  have h2 : 1 ≤ o1.length := by
    have := Y.hO
    rw [Y.sk, List.length_append, h1, List.length_append, List.length_singleton] at h
    omega
  exact ⟨o1.dropLast, o1.getLast (fun q => by rw [q] at h2; simp at h2), b, by rw [h1, List.dropLast_concat_getLast]⟩
theorem Vw.top3 (Y : Vw K s m S cn ρ fi c t l F Tk W low ops) (h : c.O + 3 ≤ t.stack.length) : ∃ ops' a b d, ops = ops' ++ [a] ++ [b] ++ [d] := by
  obtain ⟨o1, b, d, h1⟩ := Y.top2 (by omega)
  have h2 : 1 ≤ o1.length := by
    have := Y.hO
    rw [Y.sk, List.length_append, h1] at h
    simp only [List.length_append, List.length_singleton] at h
    omega
  exact ⟨o1.dropLast, o1.getLast (fun q => by rw [q] at h2; simp at h2), b, d, by rw [h1, List.dropLast_concat_getLast]⟩
/-- As many operands as the instruction needs. -/
theorem Vw.need (Y : Vw K s m S cn ρ fi c t l F Tk W low ops) {op x : Int} (hi : InsAt c F.pc op x) {n : Nat} (h : (effX op x).1 = (n : Int)) : c.O + n ≤ t.stack.length := by
  have := Y.N.needs hi
  have := Y.N.small
  omega
theorem Vw.vv (Y : Vw K s m S cn ρ fi c t l F Tk W low ops) {v : V} (h : v ∈ ops) : VVm m v := Y.N.thr.vv v (by rw [Y.sk]; exact List.mem_append_right _ h)
end
end Go.Sm
