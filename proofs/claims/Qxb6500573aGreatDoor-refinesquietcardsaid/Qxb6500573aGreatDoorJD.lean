/- Plain: every function of the program, its code seen whole. -/
import Derived.Test.Qxb6500573aGreatDoorSD
namespace Go.Wl
open Go Go.Sl Go.Proofs
set_option linter.unusedVariables false
section
variable (ns : List Nd) (P : List Fs)
/-- An instruction as the compiler lays them. -/
def IP (x : Nat) (i : In) : Prop := (i.2 = 0 ∧ i.1 ≠ 13 ∧ i.1 ≠ 28 ∧ i.1 ≠ 29) ∨
  (i.1 = 1 ∨ i.1 = 5 ∨ i.1 = 6 ∨ i.1 = 7 ∨ i.1 = 8 ∨ i.1 = 9 ∨ i.1 = 10 ∨ i.1 = 15 ∨ i.1 = 16 ∨ i.1 = 21 ∨ i.1 = 22 ∨ i.1 = 23 ∨ i.1 = 24 ∨ i.1 = 26 ∨ i.1 = 30 ∨ i.1 = 31 ∨ i.1 = 32) ∨
  (i.1 = 13 ∧ 1 ≤ i.2 ∧ i.2 ≤ 300) ∨ (i.1 = 29 ∧ ∃ f, P[x]? = some f ∧ i.2 < f.nslots) ∨ (i.1 = 28 ∧ (x : Int) < i.2 ∧ ∃ f, P[i.2.toNat]? = some f ∧ f.parent = some x)
/-- The instructions from a to b. -/
def AI (x a b : Nat) : Prop := a ≤ b ∧ ∀ j, a ≤ j → j < b → ∃ i, insP P x j = some i ∧ IP P x i
/-- The function y seen whole. -/
def CovE (y : Nat) (E : Sco) : Prop := ∃ (p1 : Nat) (f : Fs), P[y]? = some f ∧ FnX ns P y f E p1 ∧ AI P y 0 p1 ∧ p1 ≤ 17 * (ns.length - 1) + 1 ∧ insP P y p1 = some (2, 0) ∧ insP P y (p1 + 1) = some (2, 0) ∧ insP P y (p1 + 2) = some (27, 0)
def Cv (n n' : Nat) : Prop := ∀ y, n < y → y ≤ n' → ∃ E, E ≠ [] ∧ CovE ns P y E
/-- The locals fit in. -/
def SL (x : Nat) (L : List Nm8) : Prop := ∃ f, P[x]? = some f ∧ (L.length : Int) ≤ f.nslots
structure Rz (k n n' lo hi x pc pc' : Nat) : Prop where
  cv : Cv ns P n n'
  ai : AI P x pc pc'
  le : pc' + k ≤ pc + 17 * (hi - lo)
/-- What is known of the functions' instructions. -/
structure HI : Prop where
  s6 : ∀ x f pc v, P[x]? = some f → insP P x pc = some (6, v) → v < f.nslots
  s3 : ∀ x f pc op v, P[x]? = some f → insP P x pc = some (op, v) → (op = 30 ∨ op = 32) → v + 3 < f.nslots
  np : ∀ (x : Nat) f, P[x]? = some f → f.nparams ≤ f.nslots
  nl : ns.length ≤ 301
end
section
variable {ns : List Nd} {P : List Fs}
theorem AI.nil (x a : Nat) : AI P x a a := ⟨Nat.le_refl _, fun j h1 h2 => by omega⟩
theorem AI.app {x a b c : Nat} (h1 : AI P x a b) (h2 : AI P x b c) : AI P x a c := by
  refine ⟨Nat.le_trans h1.1 h2.1, fun j q1 q2 => ?_⟩
  by_cases h : j < b
  · exact h1.2 j q1 h
  · exact h2.2 j (by omega) q2
theorem AI.one {x a : Nat} {i : In} (h : insP P x a = some i) (hi : IP P x i) : AI P x a (a + 1) := ⟨by omega, fun j q1 q2 => by
  have : j = a := by omega
  subst this
  exact ⟨i, h, hi⟩⟩
theorem AI.z {x a : Nat} {op : Int} (h : insP P x a = some (op, 0)) (h1 : op ≠ 13 ∧ op ≠ 28 ∧ op ≠ 29) : AI P x a (a + 1) := AI.one h (.inl ⟨rfl, h1⟩)
theorem AI.e {x a : Nat} {op v : Int} (h : insP P x a = some (op, v)) (h1 : op = 1 ∨ op = 5 ∨ op = 6 ∨ op = 7 ∨ op = 8 ∨ op = 9 ∨ op = 10 ∨ op = 15 ∨ op = 16 ∨ op = 21 ∨ op = 22 ∨ op = 23 ∨ op = 24 ∨ op = 26 ∨ op = 30 ∨ op = 31 ∨ op = 32) : AI P x a (a + 1) := AI.one h (.inr (.inl h1))
theorem AI.c {x a : Nat} {b : Nat} {L : List Nm8} (h : insP P x a = some (29, (b : Int))) (hs : SL P x L) (hb : b < L.length) : AI P x a (a + 1) := by
  obtain ⟨f, h1, h2⟩ := hs
  exact AI.one h (.inr (.inr (.inr (.inl ⟨rfl, f, h1, by dsimp only; omega⟩))))
theorem AI.lev {x b p q : Nat} {L : List Nm8} (h : levS P x b L p q) (hs : SL P x L) : AI P x p q ∧ q ≤ p + 1 := by
  unfold levS at h
  split at h
  · rename_i hb
    obtain ⟨h1, rfl⟩ := h
    exact ⟨AI.c h1 hs hb, Nat.le_refl _⟩
  · subst h
    exact ⟨AI.nil _ _, by omega⟩
theorem AI.var {x pc : Nat} {E : Sco} {L : List Nm8} {name : Nm8} {a b c : Int} (h : VarS P x E L name a b c pc) (h1 : (a = 5 ∧ b = 7 ∧ c = 9) ∨ (a = 6 ∧ b = 8 ∧ c = 10)) : AI P x pc (pc + 1) := by
  rcases h with ⟨_, h⟩ | ⟨_, ⟨u, _, h⟩ | ⟨_, i, h, _⟩⟩
  · exact AI.e h (by omega)
  · exact AI.e h (by omega)
  · exact AI.e h (by omega)
theorem cvj {n n1 n2 : Nat} (h1 : Cv ns P n n1) (h2 : Cv ns P n1 n2) : Cv ns P n n2 := fun y q1 q2 => by
  by_cases h : y ≤ n1
  · exact h1 y q1 h
  · exact h2 y (by omega) q2
theorem cv0 (n : Nat) : Cv ns P n n := fun y q1 q2 => by omega
theorem SL.add {x : Nat} {L : List Nm8} {s : Nm8} {pc : Nat} (hs : SL P x L) (hH : HI ns P) (h : insP P x pc = some (6, (L.length : Int))) : SL P x (L ++ [s]) := by
  obtain ⟨f, h1, h2⟩ := hs
  have := hH.s6 x f pc _ h1 h
  exact ⟨f, h1, by rw [List.length_append, List.length_singleton]; omega⟩
theorem SL.of {x n : Nat} {L L2 : List Nm8} {pc : Nat} (hs : SL P x L) (hH : HI ns P) (h : insP P x pc = some (6, (n : Int))) (hn : L2.length = n + 1) : SL P x L2 := by
  obtain ⟨f, h1, h2⟩ := hs
  have := hH.s6 x f pc _ h1 h
  exact ⟨f, h1, by omega⟩
theorem binary_ip {x a : Nat} {n : Int} (h : insP P x a = some (binaryM n)) : AI P x a (a + 1) := by
  refine AI.one h ?_
  unfold binaryM
  split
  · exact .inl ⟨rfl, by decide⟩
  · split
    · exact .inr (.inl (by simp))
    · exact .inr (.inl (by simp))
theorem unary_ip {x a : Nat} {n : Int} (h : insP P x a = some (unaryM n)) : AI P x a (a + 1) := by
  refine AI.one h ?_
  unfold unaryM
  split
  · exact .inl ⟨rfl, by decide⟩
  · split
    · exact .inl ⟨rfl, by decide⟩
    · exact .inl ⟨rfl, by decide⟩
theorem RndI.hd {x len p3 p4 : Nat} (h : RndI P x len p3 p4) : AI P x p3 (p3 + 6) :=
  (((((AI.e h.j0 (by simp)).app (AI.e h.j1 (by simp))).app (AI.e h.j2 (by simp))).app (AI.e h.j3 (by simp))).app (AI.e h.j4 (by simp))).app (AI.e h.j5 (by simp))
theorem RndI.ft {x len p3 p4 : Nat} {L : List Nm8} (h : RndI P x len p3 p4) (hs : SL P x L) (hl : L.length = len + 4) : AI P x p4 (p4 + 7) :=
  ((((((AI.c h.k0 hs (by omega)).app (AI.e h.k1 (by simp))).app (AI.e h.k2 (by simp))).app (AI.e h.k3 (by simp))).app (AI.e h.k4 (by simp))).app (AI.e h.k5 (by simp))).app (AI.c h.k6 hs (by omega))
theorem WlkI.hd {x len p1 p4 : Nat} (h : WlkI P x len p1 p4) : AI P x p1 (p1 + 5) :=
  ((((AI.e h.j0 (by simp)).app (AI.z h.j1 (by decide))).app (AI.e h.j2 (by simp))).app (AI.e h.j3 (by simp))).app (AI.e h.j4 (by simp))
theorem WlkI.ft {x len p1 p4 : Nat} {L : List Nm8} (h : WlkI P x len p1 p4) (hs : SL P x L) (hl : L.length = len + 4) : AI P x p4 (p4 + 3) :=
  ((AI.c h.k0 hs (by omega)).app (AI.e h.k1 (by simp))).app (AI.c h.k2 hs (by omega))
theorem blank_ai {m x pc pc' : Nat} {E : Sco} {L : List Nm8} (h0 : ns[0]? = some nd0) (h : (recS ns P m).expr x E L pc 0 pc') : insP P x pc = some (2, 0) ∧ pc' = pc + 1 := by
  cases m with
  | zero => exact h.elim
  | succ m =>
    obtain ⟨d, hd, h⟩ := h
    rw [show (0 : Int) = ((0 : Nat) : Int) from rfl, nd_nat, h0] at hd
    injection hd with hd
    subst hd
    rw [if_pos (show nd0.k = 0 from rfl)] at h
    exact h
/-- What the nodes in form and the shape together give. -/
def CvL (ns : List Nd) (P : List Fs) (n n' : Nat) : Kd → Nat → Nat → Int → Prop
  | .ex _, lo, hi, r => ∀ m x E L pc pc', SL P x L → (recS ns P m).expr x E L pc r pc' → Rz ns P 1 n n' lo hi x pc pc'
  | .cl _, lo, hi, r => ∀ m x E L pc pc', SL P x L → clS ns P (recS ns P m) x E L pc r pc' → Rz ns P 2 n n' lo hi x pc pc'
  | .it _ len, lo, hi, r => (∀ m e x E L pc j pc', SL P x L → argS ns (recS ns P m) e x E L pc r j pc' → Rz ns P 0 n n' lo hi x pc pc') ∧ ∀ m e x E L pc (i : Int) pc', SL P x L → 0 ≤ i → i + (hi - lo : Nat) ≤ 300 → itmS ns P (recS ns P m) e x E L pc r i pc' → Rz ns P 0 n n' lo hi x pc pc'
  | .ps len, lo, hi, r => True
  | .st _ _ _, lo, hi, r => ∀ m x E L br pc pc' L', SL P x L → (recS ns P m).stmt x E L br pc r pc' L' → Rz ns P 0 n n' lo hi x pc pc' ∧ SL P x L'
  | .bl _ _ _, lo, hi, r => ∀ m e x E L br pc pc' L', SL P x L → stsS ns (recS ns P m) e x E L br pc r pc' L' → Rz ns P 0 n n' lo hi x pc pc' ∧ SL P x L'
theorem cov_all (h0 : ns[0]? = some nd0) (hH : HI ns P) {kd : Kd} {lo hi : Nat} {r : Int} {n n' : Nat} (h : Nn ns kd lo hi r n n') : CvL ns P n n' kd lo hi r := by
  induction h with
  | lit hd hl hq hk =>
    intro m x E L pc pc' sl h
    obtain ⟨m, rfl, d, hd', h⟩ := ex_in hd h
    rw [nd_pos hd] at hd'
    injection hd' with hd'
    subst hd'
    dsimp only at h
    rcases hk with rfl | rfl | rfl
    · (repeat rw [if_neg (by decide)] at h)
      rw [if_pos rfl] at h
      obtain ⟨h1, rfl⟩ := h
      exact ⟨cv0 _, AI.z h1 (by decide), by omega⟩
    · (repeat rw [if_neg (by decide)] at h)
      rw [if_pos rfl] at h
      obtain ⟨h1, rfl⟩ := h
      exact ⟨cv0 _, AI.z h1 (by decide), by omega⟩
    · (repeat rw [if_neg (by decide)] at h)
      rw [if_pos rfl] at h
      obtain ⟨h1, rfl⟩ := h
      exact ⟨cv0 _, AI.z h1 (by decide), by omega⟩
  | num hd hl hq hk =>
    intro m x E L pc pc' sl h
    obtain ⟨m, rfl, d, hd', h⟩ := ex_in hd h
    rw [nd_pos hd] at hd'
    injection hd' with hd'
    subst hd'
    dsimp only at h
    (repeat rw [if_neg (by decide)] at h)
    rw [if_pos rfl] at h
    obtain ⟨i, h1, h2, rfl⟩ := h
    exact ⟨cv0 _, AI.e h1 (by simp), by omega⟩
  | str hd hl hq hk =>
    intro m x E L pc pc' sl h
    obtain ⟨m, rfl, d, hd', h⟩ := ex_in hd h
    rw [nd_pos hd] at hd'
    injection hd' with hd'
    subst hd'
    dsimp only at h
    (repeat rw [if_neg (by decide)] at h)
    rw [if_pos rfl] at h
    obtain ⟨i, h1, h2, rfl⟩ := h
    exact ⟨cv0 _, AI.e h1 (by simp), by omega⟩
  | name hd hl hq hk =>
    intro m x E L pc pc' sl h
    obtain ⟨m, rfl, d, hd', h⟩ := ex_in hd h
    rw [nd_pos hd] at hd'
    injection hd' with hd'
    subst hd'
    dsimp only at h
    (repeat rw [if_neg (by decide)] at h)
    rw [if_pos rfl] at h
    obtain ⟨h1, rfl⟩ := h
    exact ⟨cv0 _, AI.var h1 (.inl ⟨rfl, rfl, rfl⟩), by omega⟩
  | index hd hx hk hl h1 h2 i1 i2 =>
    intro m x E L pc pc' sl h
    obtain ⟨m, rfl, d, hd', h⟩ := ex_in hd h
    rw [nd_pos hd] at hd'
    injection hd' with hd'
    subst hd'
    dsimp only at h
    (repeat rw [if_neg (by decide)] at h)
    rw [if_pos rfl] at h
    obtain ⟨p1, p2, g1, g2, g3, rfl⟩ := h
    have a1 := i1 _ _ _ _ _ _ sl g1
    have l1 := a1.le
    have a2 := i2 _ _ _ _ _ _ sl g2
    have l2 := a2.le
    have w1 := hx.reg.2.2 rfl
    have w2 := hk.reg.2.2 rfl
    exact ⟨cvj a1.cv a2.cv, (a1.ai.app a2.ai).app (AI.z g3 (by decide)), by omega⟩
  | call hd hf ha hl hl3 h1 h2 h3 i1 i2 =>
    intro m x E L pc pc' sl h
    obtain ⟨d, e, j, p1, p2, hd', g1, g2, g3, rfl⟩ := h
    rw [nd_pos hd] at hd'
    injection hd' with hd'
    subst hd'
    dsimp only at g1 g2
    have a1 := i1 _ _ _ _ _ _ sl g1
    have l1 := a1.le
    have a2 := i2.1 _ _ _ _ _ _ _ _ sl g2
    have l2 := a2.le
    have w1 := hf.reg.2.2 rfl
    have w2 := ha.reg.1
    exact ⟨cvj a1.cv a2.cv, (a1.ai.app a2.ai).app (AI.e g3 (by simp)), by omega⟩
  | ofcl hc i =>
    intro m x E L pc pc' sl h
    have hlt := hc.reg.2.2 rfl
    cases hc with
    | call hd hf ha hl hl3 h1 h2 h3 =>
      obtain ⟨m, rfl, d, hd', h⟩ := ex_in hd h
      rw [nd_pos hd] at hd'
      injection hd' with hd'
      subst hd'
      dsimp only at h
      (repeat rw [if_neg (by decide)] at h)
      rw [if_pos rfl] at h
      obtain ⟨p1, g1, g2, rfl⟩ := h
      have a1 := i _ _ _ _ _ _ sl g1
      have l1 := a1.le
      exact ⟨a1.cv, a1.ai.app (AI.z g2 (by decide)), by omega⟩
  | @func q lo m1 m2 hi n n' len al a nx rp rb hd hp hb hl hq hl3 hn i1 i2 =>
    intro m x E L pc pc' sl h
    obtain ⟨m, rfl, d, hd', h⟩ := ex_in hd h
    rw [nd_pos hd] at hd'
    injection hd' with hd'
    subst hd'
    dsimp only at h
    (repeat rw [if_neg (by decide)] at h)
    rw [if_pos rfl] at h
    obtain ⟨g1, g2, ⟨f, mm, ps, p1, f1, f2, f3, ⟨e2, q1, L1, b1, b2, b3⟩, f5, f6, f7, f8⟩, rfl⟩ := h
    have hy : ((n : Int) + 1).toNat = n + 1 := by omega
    rw [hy] at f1 b1 b3 f5 f6 f7 f8
    have slb : SL P (n + 1) ps := ⟨f, f1, by have := hH.np _ _ f1; omega⟩
    obtain ⟨a2, s2⟩ := i2 _ _ _ _ _ _ _ _ _ slb b1
    have l2 := a2.le
    have v := AI.lev b3 s2
    have w1 := hb.reg.1
    have w2 := hp.reg.1
    have w3 := lt_of hd
    have w4 := v.2
    have px := f8.pa (x, L) E rfl
    have px1 : x < n + 1 := px.1
    refine ⟨cvj (n1 := n + 1) (fun y y1 y2 => ?_) a2.cv, AI.one g1 (.inr (.inr (.inr (.inr ⟨rfl, ?_, f, ?_, px.2.1⟩)))), by omega⟩
    · have : y = n + 1 := by omega
      subst this
      exact ⟨(x, L) :: E, by simp, p1, f, f1, f8, a2.ai.app v.1, by omega, f5, f6, f7⟩
    · dsimp only
      omega
    · dsimp only
      rw [hy]
      exact f1
  | table hd hi hl h1 i1 =>
    intro m x E L pc pc' sl h
    obtain ⟨m, rfl, d, hd', h⟩ := ex_in hd h
    rw [nd_pos hd] at hd'
    injection hd' with hd'
    subst hd'
    dsimp only at h
    (repeat rw [if_neg (by decide)] at h)
    rw [if_pos rfl] at h
    obtain ⟨e, g1, g2⟩ := h
    have w1 := hi.reg.1
    have w2 := lt_of hd
    have w3 := hH.nl
    have a1 := i1.2 _ _ _ _ _ _ _ _ sl (Int.le_refl _) (by omega) g2
    have l1 := a1.le
    exact ⟨a1.cv, (AI.z g1 (by decide)).app a1.ai, by omega⟩
  | bin hd ho hx hy hl h1 h2 i1 i2 =>
    intro m x E L pc pc' sl h
    obtain ⟨m, rfl, d, hd', h⟩ := ex_in hd h
    rw [nd_pos hd] at hd'
    injection hd' with hd'
    subst hd'
    dsimp only at h
    (repeat rw [if_neg (by decide)] at h)
    rw [if_pos rfl] at h
    obtain ⟨p1, p2, g1, g2, g3, rfl⟩ := h
    have a1 := i1 _ _ _ _ _ _ sl g1
    have l1 := a1.le
    have a2 := i2 _ _ _ _ _ _ sl g2
    have l2 := a2.le
    have w1 := hx.reg.2.2 rfl
    have w2 := hy.reg.2.2 rfl
    exact ⟨cvj a1.cv a2.cv, (a1.ai.app a2.ai).app (binary_ip g3), by omega⟩
  | log hd hk hx hy hl h1 h2 i1 i2 =>
    intro m x E L pc pc' sl h
    obtain ⟨m, rfl, d, hd', h⟩ := ex_in hd h
    rw [nd_pos hd] at hd'
    injection hd' with hd'
    subst hd'
    dsimp only at h
    rcases hk with rfl | rfl
    · (repeat rw [if_neg (by decide)] at h)
      rw [if_pos rfl] at h
      obtain ⟨p1, g1, g2, g3⟩ := h
      have a1 := i1 _ _ _ _ _ _ sl g1
      have l1 := a1.le
      have a2 := i2 _ _ _ _ _ _ sl g3
      have l2 := a2.le
      have w1 := hx.reg.2.2 rfl
      have w2 := hy.reg.2.2 rfl
      exact ⟨cvj a1.cv a2.cv, (a1.ai.app (AI.e g2 (by simp))).app a2.ai, by omega⟩
    · (repeat rw [if_neg (by decide)] at h)
      rw [if_pos rfl] at h
      obtain ⟨p1, g1, g2, g3⟩ := h
      have a1 := i1 _ _ _ _ _ _ sl g1
      have l1 := a1.le
      have a2 := i2 _ _ _ _ _ _ sl g3
      have l2 := a2.le
      have w1 := hx.reg.2.2 rfl
      have w2 := hy.reg.2.2 rfl
      exact ⟨cvj a1.cv a2.cv, (a1.ai.app (AI.e g2 (by simp))).app a2.ai, by omega⟩
  | un hd ho hx hl h1 i1 =>
    intro m x E L pc pc' sl h
    obtain ⟨m, rfl, d, hd', h⟩ := ex_in hd h
    rw [nd_pos hd] at hd'
    injection hd' with hd'
    subst hd'
    dsimp only at h
    (repeat rw [if_neg (by decide)] at h)
    rw [if_pos rfl] at h
    obtain ⟨p1, g1, g2, rfl⟩ := h
    have a1 := i1 _ _ _ _ _ _ sl g1
    have l1 := a1.le
    have w1 := hx.reg.2.2 rfl
    exact ⟨a1.cv, a1.ai.app (unary_ip g2), by omega⟩
  | inil =>
    refine ⟨fun m e x E L pc j pc' sl h => ?_, fun m e x E L pc i pc' sl i0 i9 h => ?_⟩
    · cases e with
      | zero => exact h.elim
      | succ e =>
        unfold argS at h
        rw [if_pos rfl] at h
        obtain ⟨rfl, rfl⟩ := h
        exact ⟨cv0 _, AI.nil _ _, by omega⟩
    · cases e with
      | zero => exact h.elim
      | succ e =>
        unfold itmS at h
        rw [if_pos rfl] at h
        subst h
        exact ⟨cv0 _, AI.nil _ _, by omega⟩
  | @icons q len lo mid hi n n1 n2 dd r hd hn ht hl i1 i2 =>
    have hm := ht.reg.2.2 rfl
    refine ⟨fun m e x E L pc j pc' sl h => ?_, fun m e x E L pc i pc' sl i0 i9 h => ?_⟩
    · cases e with
      | zero => exact h.elim
      | succ e =>
        unfold argS at h
        rw [if_neg (by omega)] at h
        obtain ⟨p1, d, g1, hd', j', rfl, g2⟩ := h
        rw [nd_pos hd] at hd'
        injection hd' with hd'
        subst hd'
        rw [hn] at g2
        have a1 := i1 _ _ _ _ _ _ sl g1
        have l1 := a1.le
        have a2 := i2.1 _ _ _ _ _ _ _ _ sl g2
        have l2 := a2.le
        have w1 := hl.reg.1
        exact ⟨cvj a1.cv a2.cv, a1.ai.app a2.ai, by omega⟩
    · cases e with
      | zero => exact h.elim
      | succ e =>
        unfold itmS at h
        rw [if_neg (by omega)] at h
        obtain ⟨p1, d, g1, g3, hd', g2⟩ := h
        rw [nd_pos hd] at hd'
        injection hd' with hd'
        subst hd'
        rw [hn] at g2
        have a1 := i1 _ _ _ _ _ _ sl g1
        have l1 := a1.le
        have w1 := hl.reg.1
        have a2 := i2.2 _ _ _ _ _ _ _ _ sl (by omega) (by omega) g2
        have l2 := a2.le
        exact ⟨cvj a1.cv a2.cv, (a1.ai.app (AI.one g3 (.inr (.inr (.inl ⟨rfl, by dsimp only; omega, by dsimp only; omega⟩))))).app a2.ai, by omega⟩
  | pnil => trivial
  | pcons hd hn hs hm hl i2 => trivial
  | loc0 hd hl h1 h =>
    intro m x E L br pc pc' L' sl h
    obtain ⟨m, rfl, d, hd', h⟩ := st_in hd h
    rw [nd_pos hd] at hd'
    injection hd' with hd'
    subst hd'
    dsimp only at h
    rw [if_pos rfl] at h
    obtain ⟨p1, g1, g2, rfl, rfl⟩ := h
    obtain ⟨w3, rfl⟩ := blank_ai h0 g1
    exact ⟨⟨cv0 _, (AI.z w3 (by decide)).app (AI.e g2 (by simp)), by omega⟩, sl.add hH g2⟩
  | loc1 hd hl h1 hv hq h i1 =>
    intro m x E L br pc pc' L' sl h
    obtain ⟨m, rfl, d, hd', h⟩ := st_in hd h
    rw [nd_pos hd] at hd'
    injection hd' with hd'
    subst hd'
    dsimp only at h
    rw [if_pos rfl] at h
    obtain ⟨p1, g1, g2, rfl, rfl⟩ := h
    have hm := hv.reg.2.2 rfl
    have a1 := i1 _ _ _ _ _ _ sl g1
    have l1 := a1.le
    exact ⟨⟨a1.cv, a1.ai.app (AI.e g2 (by simp)), by omega⟩, sl.add hH g2⟩
  | loc2 hd hl hp hv hq h i1 i2 =>
    intro m x E L br pc pc' L' sl h
    obtain ⟨m, rfl, d, hd', h⟩ := st_in hd h
    rw [nd_pos hd] at hd'
    injection hd' with hd'
    subst hd'
    dsimp only at h
    rw [if_neg (by decide), if_pos rfl] at h
    obtain ⟨a, b, p1, e1, e2, g1, g2, g3, rfl, rfl⟩ := h
    obtain ⟨a', b', w1, w2, w3⟩ := ps2_in hp
    rw [e1] at w1
    injection w1 with w1
    subst w1
    rw [e2] at w2
    injection w2 with w2
    subst w2
    have a1 := i2 _ _ _ _ _ _ sl g1
    have l1 := a1.le
    have w4 := hp.reg.1
    have w5 := hv.reg.2.2 rfl
    exact ⟨⟨a1.cv, (a1.ai.app (AI.e g2 (by simp))).app (AI.e g3 (by simp)), by omega⟩, sl.of hH (n := L.length + 1) (by rw [g2]; simp) (by simp)⟩
  | locFn hd hl h1 hk hv hq h i1 =>
    intro m x E L br pc pc' L' sl h
    obtain ⟨m, rfl, d, hd', h⟩ := st_in hd h
    rw [nd_pos hd] at hd'
    injection hd' with hd'
    subst hd'
    dsimp only at h
    rw [if_neg (by decide), if_neg (by decide), if_pos rfl] at h
    obtain ⟨p1, g1, g2, rfl, rfl⟩ := h
    obtain ⟨d1, k1, k2⟩ := hk
    have a1 := i1 _ _ _ _ _ _ (sl.add hH g2) g1
    have l1 := a1.le
    exact ⟨⟨a1.cv, a1.ai.app (AI.e g2 (by simp)), by omega⟩, sl.add hH g2⟩
  | asgN hd hd1 hk hs1 hl1 hl hv hq i1 =>
    intro m x E L br pc pc' L' sl h
    obtain ⟨m, rfl, d, hd', h⟩ := st_in hd h
    rw [nd_pos hd] at hd'
    injection hd' with hd'
    subst hd'
    dsimp only at h
    rw [if_neg (by decide), if_neg (by decide), if_neg (by decide)] at h
    obtain ⟨rfl, h⟩ := h
    rw [if_pos rfl] at h
    obtain ⟨g, hg, h⟩ := h
    rw [nd_pos hd1] at hg
    injection hg with hg
    subst hg
    rw [if_pos hk] at h
    obtain ⟨p1, g1, g2, rfl⟩ := h
    have a1 := i1 _ _ _ _ _ _ sl g1
    have l1 := a1.le
    have w1 := hv.reg.2.2 rfl
    exact ⟨⟨a1.cv, a1.ai.app (AI.var g2 (.inr ⟨rfl, rfl, rfl⟩)), by omega⟩, sl⟩
  | asgI hd hd1 hk hx hy hl3 hv hl q0 q1 q2 i1 i2 i3 =>
    intro m x E L br pc pc' L' sl h
    obtain ⟨m, rfl, d, hd', h⟩ := st_in hd h
    rw [nd_pos hd] at hd'
    injection hd' with hd'
    subst hd'
    dsimp only at h
    rw [if_neg (by decide), if_neg (by decide), if_neg (by decide)] at h
    obtain ⟨rfl, h⟩ := h
    rw [if_pos rfl] at h
    obtain ⟨g, hg, h⟩ := h
    rw [nd_pos hd1] at hg
    injection hg with hg
    subst hg
    rw [if_neg (by omega)] at h
    obtain ⟨p1, p2, p3, g1, g2, g3, g4, rfl⟩ := h
    rw [hk.2.1] at g1
    rw [hk.2.2] at g2
    have a1 := i1 _ _ _ _ _ _ sl g1
    have l1 := a1.le
    have a2 := i2 _ _ _ _ _ _ sl g2
    have l2 := a2.le
    have a3 := i3 _ _ _ _ _ _ sl g3
    have l3 := a3.le
    have w1 := hx.reg.2.2 rfl
    have w2 := hy.reg.2.2 rfl
    have w3 := hv.reg.2.2 rfl
    exact ⟨⟨cvj a1.cv (cvj a2.cv a3.cv), ((a1.ai.app a2.ai).app a3.ai).app (AI.z g4 (by decide)), by omega⟩, sl⟩
  | callS hd hl hv hq i1 =>
    intro m x E L br pc pc' L' sl h
    obtain ⟨m, rfl, d, hd', h⟩ := st_in hd h
    rw [nd_pos hd] at hd'
    injection hd' with hd'
    subst hd'
    dsimp only at h
    rw [if_neg (by decide), if_neg (by decide), if_neg (by decide)] at h
    obtain ⟨rfl, h⟩ := h
    rw [if_neg (by decide), if_pos rfl] at h
    obtain ⟨p1, g1, g2, g3, rfl⟩ := h
    have a1 := i1 _ _ _ _ _ _ sl g1
    have l1 := a1.le
    exact ⟨⟨a1.cv, (a1.ai.app (AI.z g2 (by decide))).app (AI.z g3 (by decide)), by omega⟩, sl⟩
  | ife hd hl hc hq h1 h2 i1 i2 i3 =>
    intro m x E L br pc pc' L' sl h
    obtain ⟨m, rfl, d, hd', h⟩ := st_in hd h
    rw [nd_pos hd] at hd'
    injection hd' with hd'
    subst hd'
    dsimp only at h
    rw [if_neg (by decide), if_neg (by decide), if_neg (by decide)] at h
    obtain ⟨rfl, h⟩ := h
    rw [if_neg (by decide), if_neg (by decide), if_pos rfl] at h
    obtain ⟨p1, p3, g1, g2, ⟨e1, q1, L1, b1, b2, b3⟩, g4, ⟨e2, q2, L2, c1, c2, c3⟩⟩ := h
    have a1 := i1 _ _ _ _ _ _ sl g1
    have l1 := a1.le
    obtain ⟨a2, s2⟩ := i2 _ _ _ _ _ _ _ _ _ sl b1
    have l2 := a2.le
    have v2 := AI.lev b3 s2
    obtain ⟨a3, s3⟩ := i3 _ _ _ _ _ _ _ _ _ sl c1
    have l3 := a3.le
    have v3 := AI.lev c3 s3
    have w1 := hc.reg.2.2 rfl
    have w2 := h1.reg.1
    have w3 := h2.reg.1
    exact ⟨⟨cvj a1.cv (cvj a2.cv a3.cv), (((((a1.ai.app (AI.e g2 (by simp))).app a2.ai).app v2.1).app (AI.e g4 (by simp))).app a3.ai).app v3.1, by omega⟩, sl⟩
  | whl hd hl hc hq h1 i1 i2 =>
    intro m x E L br pc pc' L' sl h
    obtain ⟨m, rfl, d, hd', h⟩ := st_in hd h
    rw [nd_pos hd] at hd'
    injection hd' with hd'
    subst hd'
    dsimp only at h
    rw [if_neg (by decide), if_neg (by decide), if_neg (by decide)] at h
    obtain ⟨rfl, h⟩ := h
    rw [if_neg (by decide), if_neg (by decide), if_neg (by decide), if_pos rfl] at h
    obtain ⟨p1, p3, g1, g2, ⟨e1, q1, L1, b1, b2, b3⟩, g4, rfl⟩ := h
    have a1 := i1 _ _ _ _ _ _ sl g1
    have l1 := a1.le
    obtain ⟨a2, s2⟩ := i2 _ _ _ _ _ _ _ _ _ sl b1
    have l2 := a2.le
    have v2 := AI.lev b3 s2
    have w1 := hc.reg.2.2 rfl
    have w2 := h1.reg.1
    exact ⟨⟨cvj a1.cv a2.cv, (((a1.ai.app (AI.e g2 (by simp))).app a2.ai).app v2.1).app (AI.e g4 (by simp)), by omega⟩, sl⟩
  | for2 hd hl hs1 hf hd1 hn1 hg hd2 hn2 hq hq1 hh h1 i1 i2 i3 =>
    intro m x E L br pc pc' L' sl h
    obtain ⟨m, rfl, d, hd', h⟩ := st_in hd h
    rw [nd_pos hd] at hd'
    injection hd' with hd'
    subst hd'
    dsimp only at h
    rw [if_neg (by decide), if_neg (by decide), if_neg (by decide)] at h
    obtain ⟨rfl, h⟩ := h
    rw [if_neg (by decide), if_neg (by decide), if_neg (by decide), if_neg (by decide), if_pos rfl] at h
    obtain ⟨da, dl, p1, p2, p3, e1, e2, g1, g2, g3, g4, g5, g6⟩ := h
    rw [nd_pos hd1] at e1
    injection e1 with e1
    subst e1
    rw [hn1, nd_pos hd2] at e2
    injection e2 with e2
    subst e2
    rw [if_neg (by rw [hn2]; exact fun q => q rfl)] at g5
    obtain ⟨c, c1, c2, rfl⟩ := g5
    obtain ⟨p4, p5, e, L1, r1, r2, r3, rfl⟩ := rnd_in g6
    rw [hn1] at g3
    have a1 := i1 _ _ _ _ _ _ sl g1
    have l1 := a1.le
    have sl1 := sl.add (s := []) hH g2
    have a2 := i2 _ _ _ _ _ _ sl1 g3
    have l2 := a2.le
    have slb : ∀ s : Nm8, SL P x (L' ++ [[], [], [], s]) := fun s => sl.of hH (n := L'.length + 3) r1.j5 (by simp)
    obtain ⟨a3, s3⟩ := i3 _ _ _ _ _ _ _ _ _ (slb _) r2
    have l3 := a3.le
    have v := AI.lev r3 s3
    have w1 := hf.reg.2.2 rfl
    have w2 := hg.reg.2.2 rfl
    have w3 := h1.reg.1
    exact ⟨⟨cvj a1.cv (cvj a2.cv a3.cv), (((((((a1.ai.app (AI.e g2 (by simp))).app a2.ai).app (AI.e g4 (by simp))).app (AI.e c1 (by simp))).app r1.hd).app a3.ai).app v.1).app (r1.ft (slb []) (by simp)), by omega⟩, sl⟩
  | for3 hd hl hs1 hf hd1 hn1 hg hd2 hn2 hst hq hq1 hq2 hh h1 i1 i2 i3 i4 =>
    intro m x E L br pc pc' L' sl h
    obtain ⟨m, rfl, d, hd', h⟩ := st_in hd h
    rw [nd_pos hd] at hd'
    injection hd' with hd'
    subst hd'
    dsimp only at h
    rw [if_neg (by decide), if_neg (by decide), if_neg (by decide)] at h
    obtain ⟨rfl, h⟩ := h
    rw [if_neg (by decide), if_neg (by decide), if_neg (by decide), if_neg (by decide), if_pos rfl] at h
    obtain ⟨da, dl, p1, p2, p3, e1, e2, g1, g2, g3, g4, g5, g6⟩ := h
    rw [nd_pos hd1] at e1
    injection e1 with e1
    subst e1
    rw [hn1, nd_pos hd2] at e2
    injection e2 with e2
    subst e2
    have hz := hst.reg.2.2 rfl
    have hne : ∀ {d : Nd} {m : Nat}, d.next = (m : Int) → 0 < m → d.next ≠ 0 := fun q w => by omega
    have hnz := hne hn2 (by omega)
    rw [if_pos hnz] at g5
    obtain ⟨p4, p5, e, L1, r1, r2, r3, rfl⟩ := rnd_in g6
    rw [hn1] at g3
    rw [hn2] at g5
    have a1 := i1 _ _ _ _ _ _ sl g1
    have l1 := a1.le
    have sl1 := sl.add (s := []) hH g2
    have a2 := i2 _ _ _ _ _ _ sl1 g3
    have l2 := a2.le
    have sl2 : SL P x (L' ++ [[], []]) := sl.of hH (n := L'.length + 1) g4 (by simp)
    have a4 := i3 _ _ _ _ _ _ sl2 g5
    have l4 := a4.le
    have slb : ∀ s : Nm8, SL P x (L' ++ [[], [], [], s]) := fun s => sl.of hH (n := L'.length + 3) r1.j5 (by simp)
    obtain ⟨a3, s3⟩ := i4 _ _ _ _ _ _ _ _ _ (slb _) r2
    have l3 := a3.le
    have v := AI.lev r3 s3
    have w1 := hf.reg.2.2 rfl
    have w2 := hg.reg.2.2 rfl
    have w3 := h1.reg.1
    exact ⟨⟨cvj a1.cv (cvj a2.cv (cvj a4.cv a3.cv)), (((((((a1.ai.app (AI.e g2 (by simp))).app a2.ai).app (AI.e g4 (by simp))).app a4.ai).app r1.hd).app a3.ai).app v.1).app (r1.ft (slb []) (by simp)), by omega⟩, sl⟩
  | forIn hd hl hp hx hq hh h1 i1 i2 i3 =>
    intro m x E L br pc pc' L' sl h
    obtain ⟨m, rfl, d, hd', h⟩ := st_in hd h
    rw [nd_pos hd] at hd'
    injection hd' with hd'
    subst hd'
    dsimp only at h
    rw [if_neg (by decide), if_neg (by decide), if_neg (by decide)] at h
    obtain ⟨rfl, h⟩ := h
    rw [if_neg (by decide), if_neg (by decide), if_neg (by decide), if_neg (by decide), if_neg (by decide), if_pos rfl] at h
    obtain ⟨dk, dv, p1, e1, e2, g1, g2⟩ := h
    obtain ⟨a', b', w1, w2, w3⟩ := ps2_in hp
    rw [e1] at w1
    injection w1 with w1
    subst w1
    rw [e2] at w2
    injection w2 with w2
    subst w2
    obtain ⟨p4, p5, e, L1, r1, r2, r3, rfl⟩ := wlk_in g2
    have a1 := i2 _ _ _ _ _ _ sl g1
    have l1 := a1.le
    have slb : ∀ s t : Nm8, SL P x (L' ++ [[], [], s, t]) := fun s t => by
      obtain ⟨f, f1, f2⟩ := sl
      have := hH.s3 x f _ _ _ f1 r1.j3 (.inr rfl)
      exact ⟨f, f1, by simp; omega⟩
    obtain ⟨a3, s3⟩ := i3 _ _ _ _ _ _ _ _ _ (slb _ _) r2
    have l3 := a3.le
    have v := AI.lev r3 s3
    have w4 := hp.reg.1
    have w5 := hx.reg.2.2 rfl
    have w6 := h1.reg.1
    exact ⟨⟨cvj a1.cv a3.cv, (((a1.ai.app r1.hd).app a3.ai).app v.1).app (r1.ft (slb [] []) (by simp)), by omega⟩, sl⟩
  | ret0 hd hl =>
    intro m x E L br pc pc' L' sl h
    obtain ⟨m, rfl, d, hd', h⟩ := st_in hd h
    rw [nd_pos hd] at hd'
    injection hd' with hd'
    subst hd'
    dsimp only at h
    rw [if_neg (by decide), if_neg (by decide), if_neg (by decide)] at h
    obtain ⟨rfl, h⟩ := h
    rw [if_neg (by decide), if_neg (by decide), if_neg (by decide), if_neg (by decide), if_neg (by decide), if_neg (by decide), if_pos rfl] at h
    obtain ⟨p1, p2, g1, g2, g3, rfl⟩ := h
    obtain ⟨k1, rfl⟩ := blank_ai h0 g1
    obtain ⟨k2, rfl⟩ := blank_ai h0 g2
    exact ⟨⟨cv0 _, ((AI.z k1 (by decide)).app (AI.z k2 (by decide))).app (AI.z g3 (by decide)), by omega⟩, sl⟩
  | ret1 hd hl hx hq i1 =>
    intro m x E L br pc pc' L' sl h
    obtain ⟨m, rfl, d, hd', h⟩ := st_in hd h
    rw [nd_pos hd] at hd'
    injection hd' with hd'
    subst hd'
    dsimp only at h
    rw [if_neg (by decide), if_neg (by decide), if_neg (by decide)] at h
    obtain ⟨rfl, h⟩ := h
    rw [if_neg (by decide), if_neg (by decide), if_neg (by decide), if_neg (by decide), if_neg (by decide), if_neg (by decide), if_pos rfl] at h
    obtain ⟨p1, p2, g1, g2, g3, rfl⟩ := h
    have a1 := i1 _ _ _ _ _ _ sl g1
    have l1 := a1.le
    obtain ⟨k2, rfl⟩ := blank_ai h0 g2
    have w1 := hx.reg.2.2 rfl
    exact ⟨⟨a1.cv, (a1.ai.app (AI.z k2 (by decide))).app (AI.z g3 (by decide)), by omega⟩, sl⟩
  | ret2 hd hl hx hy hq hq1 i1 i2 =>
    intro m x E L br pc pc' L' sl h
    obtain ⟨m, rfl, d, hd', h⟩ := st_in hd h
    rw [nd_pos hd] at hd'
    injection hd' with hd'
    subst hd'
    dsimp only at h
    rw [if_neg (by decide), if_neg (by decide), if_neg (by decide)] at h
    obtain ⟨rfl, h⟩ := h
    rw [if_neg (by decide), if_neg (by decide), if_neg (by decide), if_neg (by decide), if_neg (by decide), if_neg (by decide), if_pos rfl] at h
    obtain ⟨p1, p2, g1, g2, g3, rfl⟩ := h
    have a1 := i1 _ _ _ _ _ _ sl g1
    have l1 := a1.le
    have a2 := i2 _ _ _ _ _ _ sl g2
    have l2 := a2.le
    have w1 := hx.reg.2.2 rfl
    have w2 := hy.reg.2.2 rfl
    exact ⟨⟨cvj a1.cv a2.cv, (a1.ai.app a2.ai).app (AI.z g3 (by decide)), by omega⟩, sl⟩
  | brk hd hl =>
    intro m x E L br pc pc' L' sl h
    obtain ⟨m, rfl, d, hd', h⟩ := st_in hd h
    rw [nd_pos hd] at hd'
    injection hd' with hd'
    subst hd'
    dsimp only at h
    rw [if_neg (by decide), if_neg (by decide), if_neg (by decide)] at h
    obtain ⟨rfl, h⟩ := h
    rw [if_neg (by decide), if_neg (by decide), if_neg (by decide), if_neg (by decide), if_neg (by decide), if_neg (by decide), if_neg (by decide), if_pos rfl] at h
    obtain ⟨base, out, p1, rfl, g1, g2, rfl⟩ := h
    have v := AI.lev g1 sl
    exact ⟨⟨cv0 _, v.1.app (AI.e g2 (by simp)), by omega⟩, sl⟩
  | bnil =>
    intro m e x E L br pc pc' L' sl h
    cases e with
    | zero => exact h.elim
    | succ e =>
      unfold stsS at h
      rw [if_pos rfl] at h
      obtain ⟨rfl, rfl⟩ := h
      exact ⟨⟨cv0 _, AI.nil _ _, by omega⟩, sl⟩
  | bcons hd hn ht hl i1 i2 =>
    intro m e x E L br pc pc' L' sl h
    have hm := ht.reg.2.2 rfl
    cases e with
    | zero => exact h.elim
    | succ e =>
      unfold stsS at h
      rw [if_neg (by omega)] at h
      obtain ⟨p1, L1, d, g1, hd', g2⟩ := h
      rw [nd_pos hd] at hd'
      injection hd' with hd'
      subst hd'
      rw [hn] at g2
      obtain ⟨a1, s1⟩ := i1 _ _ _ _ _ _ _ _ sl g1
      have l1 := a1.le
      obtain ⟨a2, s2⟩ := i2 _ _ _ _ _ _ _ _ _ s1 g2
      have l2 := a2.le
      have w1 := hl.reg.1
      exact ⟨⟨cvj a1.cv a2.cv, a1.ai.app a2.ai, by omega⟩, s2⟩
end
end Go.Wl
