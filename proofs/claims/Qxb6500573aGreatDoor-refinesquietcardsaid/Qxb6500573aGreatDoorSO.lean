/- Plain: the interpreter and the machine go on together: the frame of the proof. -/
import Derived.Test.Qxb6500573aGreatDoorSM
import Derived.Test.Qxb6500573aGreatDoorSX
namespace Go.Wl
open Go Go.Sl Go.Proofs
set_option linter.unusedVariables false
section
variable {c : Cx} {m m' : VM} {t t' : Th} {pc q : Nat}
/-- Behind a step of the thread. -/
theorem Now.after (N : Now c m t pc) (h : vstepL c.th m = some (.ok ev0 m')) (ht' : m'.vs.threads[c.th]? = some t') (hf : t'.frames = c.fs ++ [{ c.f with pc := (q : Nat) }]) (hcl : ∀ i x, getI m.vs.clos i = some x → getI m'.vs.clos i = some x) : Now (c.pc q) m' t' q := by
  obtain ⟨o, h1, h2⟩ := step_ok (c := c) (m := m) ⟨pc, N.hpc.1, N.hpc.2, N.run⟩
  rw [h] at h1
  injection h1 with h1
  subst h1
  rcases h2 with ⟨_, c', g1, g2, g3, ⟨pc', r1, r2, r3⟩, _⟩ | ⟨hE, _⟩
  · obtain ⟨t2, ht2, hR⟩ := r3.run
    rw [g3, ht'] at ht2
    injection ht2 with ht2
    subst ht2
    have hfr := hR.fr
    rw [hf] at hfr
    obtain ⟨e1, e2⟩ := List.append_inj' hfr rfl
    injection e2 with e2 _
    have e3 : c'.cl = c.cl := by
      have h3 := hR.cl
      rw [← e2] at h3
      have h4 := hcl _ _ N.thr.cl
      rw [h4] at h3
      injection h3 with h3
      exact h3.symm
    have e4 : c'.p = c.p := by
      have h3 := hR.pr
      rw [e3, g1, N.thr.pr] at h3
      injection h3 with h3
      exact h3.symm
    have e5 : c'.B = c.B := by
      have h3 := hR.b
      have h4 := N.thr.b
      rw [← e2] at h3
      dsimp only at h3
      omega
    have hc : c' = c.pc q := by
      obtain ⟨a1, a2, a3, a4, a5, a6, a7, a8⟩ := c'
      dsimp only at g1 g2 g3 e1 e2 e3 e4 e5
      subst g1 g2 g3 e3 e4 e5 e1
      unfold Cx.pc
      rw [← e2]
    subst hc
    have hq : pc' = q := by
      have : ((c.pc q).f.pc : Int) = (q : Nat) := rfl
      omega
    subst hq
    exact ⟨r3, ⟨r1, r2⟩, ht'⟩
  · rcases hE.kd with (k | k) | k | ⟨k, _⟩ <;> cases k
theorem Now.go (N : Now c m t pc) : Run c m := ⟨pc, N.hpc.1, N.hpc.2, N.run⟩
end
end Go.Wl
namespace Go.Sm
open Go Go.Sl Go.Wl Go.Nm Go.Proofs
set_option linter.unusedVariables false
/-- Both stand at the same place; w falls while the machine rests. -/
inductive RR (K : Cn) : Nat → RnM → Cfg → Prop
  | run {s : RnM} {S : List Nat} {cn : Int} {m : VM} {ρ : Nat → Option Plc} {fi : Nat → List FI} {c : Cx} {l : List FI} {F : FI} (hg : c.g = K.g) (hp : c.PT = K.PT) (hr : Run c m) (R : Rl K s m c.th S cn ρ fi) (hf : fi c.th = l ++ [F]) : RR K F.w s (.run S c.th cn m)
  | fin {s : RnM} {r : An} {cn : Int} {m : VM} (hd : s.done = true) (ha : s.ans = ansOf r cn m) (ht : ∃ rs, TsX m.vs.tabs rs) : RR K 0 s (.fin r cn m)
def Prog (K : Cn) (w : Nat) (s : RnM) (cfg : Cfg) : Prop := ∃ k s' cfg' w', MS s s' ∧ GS k cfg cfg' ∧ RR K w' s' cfg' ∧ (1 ≤ k ∨ w' < w)
theorem gstep_ok {S : List Nat} {th : Nat} {cn : Int} {m m' : VM} (h : vstepL th m = some (.ok ev0 m')) : gstep (.run S th cn m) = some (.run S th cn m') := by
  rw [gstep_run, h]
  rfl
section
variable {K : Cn} {s : RnM} {m : VM} {S : List Nat} {cn : Int} {ρ : Nat → Option Plc} {fi : Nat → List FI} {c : Cx} {t : Th} {l : List FI} {F : FI} {Tk : List TkM} {W low ops : List V}
abbrev KtV (K : Cn) (s : RnM) (m : VM) (ρ : Nat → Option Plc) (c : Cx) (F : FI) : Brk → List Nm8 → Nat → Nat → List Nat → List TkM → Nat → Prop := Kt K.ns K.P F.x F.E K.HB (VOk K.P s.envs ρ m c.th F.B F.x F.E F.up) F.h (if c.f.prot = true then 1 else 0) F.iv
theorem Vw.fn (Y : Vw K s m S cn ρ fi c t l F Tk W low ops) {pc : Nat} {i : In} (h : insP K.P F.x pc = some i) : ∃ f, K.P[F.x]? = some f ∧ f.code[pc]? = some i := by
  unfold insP at h
  cases hf : K.P[F.x]? with
  | none => rw [hf] at h; cases h
  | some f => rw [hf] at h; exact ⟨f, rfl, h⟩
theorem Vw.lnk (Y : Vw K s m S cn ρ fi c t l F Tk W low ops) {f : Fs} (hf : K.P[F.x]? = some f) : LnkF K.g f c.p := by
  obtain ⟨p, h1, h2⟩ := pg_lnk hf
  have h3 := Y.pr
  rw [Y.kok.g] at h3 ⊢
  rw [h1] at h3
  injection h3 with h3
  subst h3
  exact h2
theorem Vw.ins (Y : Vw K s m S cn ρ fi c t l F Tk W low ops) {pc : Nat} {op x : Int} (h : insP K.P F.x pc = some (op, x)) : InsAt c pc op x := by
  obtain ⟨f, h1, h2⟩ := Y.fn h
  unfold InsAt
  rw [Y.kg]
  exact (Y.lnk h1).cd _ _ h2
theorem Vw.kon (Y : Vw K s m S cn ρ fi c t l F Tk W low ops) {x : Int} {v : V} (h : kP K.P F.x x v) : constM c.p x m = some v := by
  obtain ⟨h0, f, h1, h2⟩ := h
  obtain ⟨k1, k2⟩ := (Y.lnk h1).ks _ _ h2
  rw [Int.toNat_of_nonneg h0] at k1 k2
  obtain ⟨v', q1, _, q3⟩ := Y.N.run.const ⟨h0, k1⟩
  rw [Y.kg] at q3
  rw [k2] at q3
  injection q3 with q3
  rw [q1, q3]
theorem Vw.nd (Y : Vw K s m S cn ρ fi c t l F Tk W low ops) {n : Int} {d : Nd} (h : nd K.ns n = some d) : ndG s n = some d := by
  unfold Go.Wl.nd at h
  have := Y.kok.nl
  unfold ndG
  rw [Y.R.nd.1]
  split at h
  · rename_i q
    rw [if_pos ⟨q, by omega⟩]
    exact h
  · cases h
theorem Vw.nd0 (Y : Vw K s m S cn ρ fi c t l F Tk W low ops) : ndG s 0 = some Go.Wl.nd0 := Y.nd (by rw [show (0 : Int) = ((0 : Nat) : Int) from rfl, nd_nat]; exact Y.kok.n0)
theorem Vw.same (Y : Vw K s m S cn ρ fi c t l F Tk W low ops) : upd c m t (low ++ ops) F.pc = m := by
  unfold upd
  have h1 := Y.N.hpc.1
  have e : ({ t with stack := low ++ ops, frames := c.fs ++ [{ c.f with pc := (F.pc : Nat) }] } : Th) = t := by
    have e1 : ({ c.f with pc := (F.pc : Nat) } : Fr) = c.f := by
      rw [← h1]
    rw [e1, ← Y.sk, ← Y.hfr]
  rw [e]
  exact setTh_same Y.ht
theorem Vs.nops (Y : Vs K s m S cn ρ fi c t l F Tk W low ops) : F.no = ops.length := by
  have h1 := Y.fr.nc
  have h2 := Y.lo
  rw [Y.sk, List.length_append] at h1
  omega
theorem Vs.tbs (Y : Vs K s m S cn ρ fi c t l F Tk W low ops) : ∀ p, p ∈ F.tb → ∃ v, ops[p]? = some v ∧ v.t = 4 := fun p hp => by
  obtain ⟨v, h1, h2⟩ := Y.fr.tv p hp
  rw [List.take_of_length_le (Nat.le_refl _), Y.sk, ← Y.lo, List.drop_left] at h1
  exact ⟨v, h1, h2⟩
/-- Tables among the operands that stay. -/
theorem tb_app {tb : List Nat} {A B C : List V} (h : ∀ p, p ∈ tb → ∃ v, (A ++ B)[p]? = some v ∧ v.t = 4) (hp : ∀ p, p ∈ tb → p < A.length) : ∀ p, p ∈ tb → ∃ v, (A ++ C)[p]? = some v ∧ v.t = 4 := fun p hq => by
  obtain ⟨v, h1, h2⟩ := h p hq
  refine ⟨v, ?_, h2⟩
  rw [List.getElem?_append_left (hp p hq)] at h1 ⊢
  exact h1
theorem tb_cut {tb : List Nat} {A B : List V} (h : ∀ p, p ∈ tb → ∃ v, (A ++ B)[p]? = some v ∧ v.t = 4) (hp : ∀ p, p ∈ tb → p < A.length) : ∀ p, p ∈ tb → ∃ v, A[p]? = some v ∧ v.t = 4 := fun p hq => by
  obtain ⟨v, h1, h2⟩ := h p hq
  refine ⟨v, ?_, h2⟩
  rw [List.getElem?_append_left (hp p hq)] at h1
  exact h1
theorem tb_nil {X : List V} : ∀ p, p ∈ ([] : List Nat) → ∃ v, X[p]? = some v ∧ v.t = 4 := fun p hp => by cases hp
/-- The interpreter's own steps. -/
theorem Vw.admin (Y : Vw K s m S cn ρ fi c t l F Tk W low ops) {br' : Brk} {L' : List Nm8} {T' : List TkM} {w' : Nat} (hm : MS s (Go.Sm.ms s (T' ++ Tk) (W ++ (hidV low F.B F.L ++ ops)))) (hk : KtV K s m ρ c F br' F.L F.pc F.no F.tb T' w') (hw : w' < F.w) : Prog K F.w s (.run S c.th cn m) := by
  have R' := Y.loc0 (ops' := ops) hk Y.nops Y.tbs
  rw [Y.same] at R'
  exact ⟨0, _, _, w', hm, .refl _, .run (F := { F with L := F.L, br := br', pc := F.pc, T := T', w := w', no := F.no, tb := F.tb }) Y.kg Y.kp Y.N.go R' (fiUp_at _ _ _), .inr hw⟩
/-- One step of each. -/
theorem Vw.step1 (Y : Vw K s m S cn ρ fi c t l F Tk W low ops) {s' : RnM} {m' : VM} {t' : Th} {q : Nat} {ρ' : Nat → Option Plc} {fi' : Nat → List FI} {l' : List FI} {F' : FI} (hm : MS s s') (hv : vstepL c.th m = some (.ok ev0 m')) (ht' : m'.vs.threads[c.th]? = some t') (hf : t'.frames = c.fs ++ [{ c.f with pc := (q : Nat) }]) (hcl : ∀ i x, getI m.vs.clos i = some x → getI m'.vs.clos i = some x) (R' : Rl K s' m' c.th S cn ρ' fi') (hfi : fi' c.th = l' ++ [F']) : Prog K F.w s (.run S c.th cn m) :=
  ⟨1, s', _, F'.w, hm, .one (gstep_ok hv), RR.run (c := c.pc q) Y.kg Y.kp (Y.N.after hv ht' hf hcl).go R' hfi, .inl (Nat.le_refl _)⟩
/-- One step of each; only operands and place turn. -/
theorem Vw.step (Y : Vw K s m S cn ρ fi c t l F Tk W low ops) {br' : Brk} {pc' no' w' : Nat} {tb' : List Nat} {T' : List TkM} {ops' : List V} (hm : MS s (Go.Sm.ms s (T' ++ Tk) (W ++ (hidV low F.B F.L ++ ops')))) (hv : vstepL c.th m = some (.ok ev0 (upd c m t (low ++ ops') pc'))) (hk : KtV K s m ρ c F br' F.L pc' no' tb' T' w') (hno : no' = ops'.length) (htb : ∀ p, p ∈ tb' → ∃ v, ops'[p]? = some v ∧ v.t = 4) : Prog K F.w s (.run S c.th cn m) :=
  Y.step1 hm hv (upd_at c m Y.ht _ _) rfl (fun _ _ h => h) (Y.loc0 hk hno htb) (fiUp_at _ _ _)
/-- The interpreter at its next task. -/
theorem Vw.task (Y : Vw K s m S cn ρ fi c t l F Tk W low ops) {q : TkM} {T : List TkM} {d : Nd} {s' : RnM} (hT : F.T = q :: T) (hq : q.k ≠ 3) (hd : ndG s q.n = some d) (h : rtask q d (Go.Sm.ms s (T ++ Tk) (W ++ (hidV low F.B F.L ++ ops))) = some s') : MS s s' := by
  refine .one Y.R.dn ?_
  have e := Y.ms
  have htl := Y.tl
  rw [hT] at e htl
  rw [← e]
  rw [List.cons_append]
  rw [ms_step Y.cur (by rw [List.cons_append, List.length_cons] at htl; omega) hq hd]
  exact h
theorem Vw.tlen (Y : Vw K s m S cn ρ fi c t l F Tk W low ops) {q : TkM} {T : List TkM} (hT : F.T = q :: T) : (T ++ Tk).length + 1 ≤ 100000 := by
  have htl := Y.tl
  rw [hT, List.cons_append, List.length_cons] at htl
  exact htl
theorem Vw.base (Y : Vw K s m S cn ρ fi c t l F Tk W low ops) : W.length + (hidV low F.B F.L).length + ops.length ≤ 2300 := by
  have := Y.vl
  rw [List.length_append, List.length_append] at this
  omega
end
end Go.Sm
