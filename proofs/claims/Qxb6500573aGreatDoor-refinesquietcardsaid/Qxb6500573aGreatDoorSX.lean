/- Plain: the machine and its driver as one flat walk. -/
import Derived.Test.Qxb6500573aGreatDoorBFd
namespace Go.Sm
open Go Go.Sl Go.Wl Go.Proofs
set_option linter.unusedVariables false
inductive Cfg where
  | run (S : List Nat) (th : Nat) (cn : Int) (m : VM)
  | fin (r : An) (cn : Int) (m : VM)
/-- A thread goes on. -/
def entryM (th : Nat) (a b : V) (m : VM) : Option VM :=
  if m.ended ≠ 0 then none else if (m.vs.threads.length : Int) ≤ th then none else
  bind1 (validM a m) fun r => bind1 (validM b m) fun s => if r = true then (if s = true then bind1 (getT m th) fun t =>
    bind1 (if t.st = 1 then enterM th t.fn [a] 0 false m else if t.st = 2 then pushM th [a, b] m else if t.st = 3 then pushM th [a, b] m else none) fun m => bind1 (getT m th) fun t => some (setTh m th { t with st := 4 })
  else none) else none
def gback (S : List Nat) (r : An) (cn : Int) (m : VM) : Option Cfg := match S with
  | [] => some (.fin r cn m)
  | u :: S' => bind1 (entryM u (boolV (decide (r.k = 1))) r.v m) fun m1 => some (.run S' u cn m1)
def gev (S : List Nat) (th : Nat) (cn : Int) (e : Ev) (m : VM) : Option Cfg :=
  if e.k = 4 then bind1 (entryM e.co.toNat e.a V.nil m) fun m1 => some (.run (th :: S) e.co.toNat (if statusV e.co m = 1 then cn + 1 else cn) m1)
  else if e.k = 3 then gback S ⟨1, e.a, 0⟩ cn m else if e.k = 1 then gback S ⟨1, e.a, 0⟩ cn m else if e.k = 2 then gback S ⟨2, e.a, 0⟩ cn m else if e.k = 5 then some (.fin ⟨3, V.nil, e.e⟩ cn m) else some (.fin ⟨3, V.nil, 21⟩ cn m)
def gOut (S : List Nat) (th : Nat) (cn : Int) (o : Out Ev) : Option Cfg := bind1 (runV th o) fun r => if r.2.1 = true then gev S th cn r.1 r.2.2 else some (.run S th cn r.2.2)
def gstep : Cfg → Option Cfg
  | .fin _ _ _ => none
  | .run S th cn m => bind1 (vstepL th m) fun o => match o with
    | .ok e m' => if e.k = 0 then some (.run S th cn m') else gOut S th cn (.ok e m')
    | .thr v m' => gOut S th cn (.thr v m')
    | .trp e m' => gOut S th cn (.trp e m')
theorem gstep_run (S : List Nat) (th : Nat) (cn : Int) (m : VM) : gstep (.run S th cn m) = bind1 (vstepL th m) fun o => match o with
    | .ok e m' => if e.k = 0 then some (.run S th cn m') else gOut S th cn (.ok e m')
    | .thr v m' => gOut S th cn (.thr v m')
    | .trp e m' => gOut S th cn (.trp e m') := rfl
theorem gback_cons (u : Nat) (S : List Nat) (r : An) (cn : Int) (m : VM) : gback (u :: S) r cn m = bind1 (entryM u (boolV (decide (r.k = 1))) r.v m) fun m1 => some (.run S u cn m1) := rfl
inductive GS : Nat → Cfg → Cfg → Prop
  | refl (c : Cfg) : GS 0 c c
  | step {n : Nat} {a b c : Cfg} (h : gstep a = some b) (h2 : GS n b c) : GS (n + 1) a c
theorem GS.one {a b : Cfg} (h : gstep a = some b) : GS 1 a b := .step h (.refl _)
theorem GS.trans {n k : Nat} {a b c : Cfg} (h1 : GS n a b) (h2 : GS k b c) : GS (n + k) a c := by
  induction h1 with
  | refl c => rw [Nat.zero_add]; exact h2
  | @step n a b c h _ ih => rw [show n + 1 + k = n + k + 1 from by omega]; exact .step h (ih h2)
/-- The walk is one. -/
theorem GS.rest {n k : Nat} {a b : Cfg} {r : An} {cn : Int} {m : VM} (h1 : GS n a (.fin r cn m)) (h2 : GS k a b) : k ≤ n ∧ GS (n - k) b (.fin r cn m) := by
  induction h2 generalizing n with
  | refl c => exact ⟨Nat.zero_le _, h1⟩
  | @step k a b c h _ ih =>
    cases h1 with
    | refl => cases h
    | @step n' _ b' _ g1 g2 =>
      rw [h] at g1
      injection g1 with g1
      subst g1
      obtain ⟨q1, q2⟩ := ih g2
      exact ⟨by omega, by rw [show n' + 1 - (k + 1) = n' - k from by omega]; exact q2⟩
theorem exec_entry {th n k : Nat} {a c : V} {m m' : VM} {e : Ev} (h : execM th a c n k m = some (e, m')) : (e = ev6) ∨ ∃ m1, entryM th a c m = some m1 ∧ execL th n k m1 = some (e, m') := by
  have h6 : ∀ {e : Ev} {m m' : VM}, some (ev6, m) = some (e, m') → e = ev6 := fun h => by injection h with h; injection h with h; exact h.symm
  unfold execM at h
  unfold entryM
  by_cases c1 : m.ended ≠ 0
  · rw [if_pos c1] at h; exact .inl (h6 h)
  rw [if_neg c1] at h ⊢
  by_cases c2 : (m.vs.threads.length : Int) ≤ th
  · rw [if_pos c2] at h; exact .inl (h6 h)
  rw [if_neg c2] at h ⊢
  obtain ⟨r, hr, h⟩ := bnd1 h
  obtain ⟨s, hs, h⟩ := bnd1 h
  rw [hr, hs]
  show _ ∨ ∃ m1, (if r = true then (if s = true then _ else _) else _) = _ ∧ _
  by_cases c3 : r = true
  · rw [if_pos c3] at h ⊢
    by_cases c4 : s = true
    · rw [if_pos c4] at h ⊢
      obtain ⟨t, ht, h⟩ := bnd1 h
      rw [ht]
      show _ ∨ ∃ m1, bind1 (if t.st = 1 then _ else _) _ = _ ∧ _
      have key : ∀ {x : Option VM}, (bind1 x fun m => execS th n k m) = some (e, m') → ∃ m1, (bind1 x fun m => bind1 (getT m th) fun t => some (setTh m th { t with st := 4 })) = some m1 ∧ execL th n k m1 = some (e, m') := fun {x} h => by
        obtain ⟨m0, h0, h⟩ := bnd1 h
        unfold execS at h
        obtain ⟨t0, ht0, h⟩ := bnd1 h
        exact ⟨_, by rw [h0]; show bind1 (getT m0 th) _ = _; rw [ht0]; rfl, h⟩
      by_cases d1 : t.st = 1
      · rw [if_pos d1] at h ⊢; exact .inr (key h)
      rw [if_neg d1] at h ⊢
      by_cases d2 : t.st = 2
      · rw [if_pos d2] at h ⊢; exact .inr (key h)
      rw [if_neg d2] at h ⊢
      by_cases d3 : t.st = 3
      · rw [if_pos d3] at h ⊢; exact .inr (key h)
      rw [if_neg d3] at h
      exact .inl (h6 h)
    · rw [if_neg c4] at h; exact .inl (h6 h)
  · rw [if_neg c3] at h; exact .inl (h6 h)
theorem loop_flat {S : List Nat} {th : Nat} {cn : Int} : ∀ (n : Nat) {m : VM} {o : Out Ev}, loopM th n m = some o → ∃ j m0, GS j (.run S th cn m) (.run S th cn m0) ∧ gstep (.run S th cn m0) = gOut S th cn o
  | 0, m, o, h => by cases h
  | n + 1, m, o, h => by
    unfold loopM at h
    cases hv : vstepL th m with
    | none => rw [hv] at h; cases h
    | some x =>
      rw [hv] at h
      cases x with
      | ok e m1 =>
        have h : (if e.k ≠ 0 then some (.ok e m1) else loopM th n m1) = some o := h
        by_cases c : e.k ≠ 0
        · rw [if_pos c] at h
          injection h with h
          subst h
          refine ⟨0, m, .refl _, ?_⟩
          rw [gstep_run, hv]
          show (if e.k = 0 then _ else _) = _
          rw [if_neg c]
        · rw [if_neg c] at h
          obtain ⟨j, m0, h1, h2⟩ := loop_flat n h
          refine ⟨j + 1, m0, .step ?_ h1, h2⟩
          rw [gstep_run, hv]
          show (if e.k = 0 then _ else _) = _
          rw [if_pos (by omega)]
      | thr v m1 =>
        have h : some (Out.thr v m1) = some o := h
        injection h with h
        subst h
        exact ⟨0, m, .refl _, by rw [gstep_run, hv]; rfl⟩
      | trp e m1 =>
        have h : some (Out.trp e m1) = some o := h
        injection h with h
        subst h
        exact ⟨0, m, .refl _, by rw [gstep_run, hv]; rfl⟩
theorem exec_flat {S : List Nat} {th n : Nat} {cn : Int} : ∀ (k : Nat) {m m' : VM} {e : Ev}, execL th n k m = some (e, m') → ∃ j m0, GS j (.run S th cn m) (.run S th cn m0) ∧ gstep (.run S th cn m0) = gev S th cn e m'
  | 0, m, m', e, h => by cases h
  | k + 1, m, m', e, h => by
    unfold execL at h
    obtain ⟨o, ho, h⟩ := bnd1 h
    obtain ⟨r, hr, h⟩ := bnd1 h
    obtain ⟨j, m0, h1, h2⟩ := loop_flat (S := S) (cn := cn) n ho
    unfold gOut at h2
    rw [hr] at h2
    have h2 : gstep (.run S th cn m0) = if r.2.1 = true then gev S th cn r.1 r.2.2 else some (.run S th cn r.2.2) := h2
    by_cases c : r.2.1 = true
    · rw [if_pos c] at h h2
      injection h with h
      injection h with e1 e2
      subst e1 e2
      exact ⟨j, m0, h1, h2⟩
    · rw [if_neg c] at h h2
      obtain ⟨j2, m2, g1, g2⟩ := exec_flat (S := S) (cn := cn) k h
      exact ⟨j + (j2 + 1), m2, h1.trans (.step h2 g1), g2⟩
def FlatR (th : Nat) (a c : V) (cn : Int) (m : VM) (r : An) (cn' : Int) (m' : VM) : Prop :=
  (r.k = 3 ∧ r.e = 21) ∨ ∃ m1, entryM th a c m = some m1 ∧ ∀ S, (r.k = 3 → ∃ j, GS j (.run S th cn m1) (.fin r cn' m')) ∧ (r.k ≠ 3 → ∀ cfg, gback S r cn' m' = some cfg → ∃ j, GS j (.run S th cn m1) cfg)
theorem coR_flat {n k : Nat} {sub : Nat → V → V → Int → VM → Option (An × Int × VM)} (hsub : ∀ th a cn m r cn' m', sub th a V.nil cn m = some (r, cn', m') → FlatR th a V.nil cn m r cn' m') : ∀ (R : Nat) {th : Nat} {a c : V} {cn cn' : Int} {m m' : VM} {r : An}, coR n k sub R th a c cn m = some (r, cn', m') → FlatR th a c cn m r cn' m'
  | 0, th, a, c, cn, cn', m, m', r, h => by cases h
  | R + 1, th, a, c, cn, cn', m, m', r, h => by
    unfold coR at h
    obtain ⟨e, m2, he, h⟩ := bnd2 h
    rcases exec_entry he with rfl | ⟨m1, h1, h2⟩
    · rw [if_neg (by decide), if_neg (by decide), if_neg (by decide), if_neg (by decide), if_neg (by decide)] at h
      injection h with h
      injection h with h _
      subst h
      exact .inl ⟨rfl, rfl⟩
    by_cases k4 : e.k = 4
    · rw [if_pos k4] at h
      by_cases hg : (0 ≤ e.co ∧ e.co ≤ 1000000) ∧ 0 ≤ cn ∧ cn ≤ 1000000000
      · rw [if_pos hg] at h
        obtain ⟨⟨r1, cn8, m8⟩, hs, h⟩ := bnd1 h
        dsimp only at h
        rcases hsub _ _ _ _ _ _ _ hs with ⟨q1, q2⟩ | ⟨m3, q1, q2⟩
        · rw [if_pos q1] at h
          injection h with h
          injection h with h _
          subst h
          exact .inl ⟨q1, q2⟩
        · have hgo : ∀ S, ∃ j, GS j (.run S th cn m1) (.run (th :: S) e.co.toNat (if statusV e.co m2 = 1 then cn + 1 else cn) m3) := fun S => by
            obtain ⟨j, m0, g1, g2⟩ := exec_flat (S := S) (cn := cn) k h2
            unfold gev at g2
            rw [if_pos k4, q1] at g2
            exact ⟨j + 1, g1.trans (.one g2)⟩
          by_cases c3 : r1.k = 3
          · rw [if_pos c3] at h
            injection h with h
            injection h with e1 e2
            injection e2 with e2 e3
            subst e1 e2 e3
            refine .inr ⟨m1, h1, fun S => ⟨fun _ => ?_, fun q => absurd c3 q⟩⟩
            obtain ⟨j, g1⟩ := hgo S
            obtain ⟨j2, g2⟩ := (q2 (th :: S)).1 c3
            exact ⟨j + j2, g1.trans g2⟩
          · rw [if_neg c3] at h
            rcases coR_flat hsub R h with q | ⟨m5, w1, w2⟩
            · exact .inl q
            · refine .inr ⟨m1, h1, fun S => ?_⟩
              have hb : ∃ j, GS j (.run S th cn m1) (.run S th cn8 m5) := by
                obtain ⟨j, g1⟩ := hgo S
                obtain ⟨j2, g2⟩ := (q2 (th :: S)).2 c3 (.run S th cn8 m5) (by rw [gback_cons, w1]; rfl)
                exact ⟨j + j2, g1.trans g2⟩
              obtain ⟨j, g1⟩ := hb
              refine ⟨fun q => ?_, fun q cfg hc => ?_⟩
              · obtain ⟨j2, g2⟩ := (w2 S).1 q
                exact ⟨j + j2, g1.trans g2⟩
              · obtain ⟨j2, g2⟩ := (w2 S).2 q cfg hc
                exact ⟨j + j2, g1.trans g2⟩
      · rw [if_neg hg] at h; cases h
    rw [if_neg k4] at h
    have hfin : ∀ {r0 : An}, r0.k ≠ 3 → (∀ S, gev S th cn e m2 = gback S r0 cn m2) → some (r0, cn, m2) = some (r, cn', m') → FlatR th a c cn m r cn' m' := fun {r0} hk hg h => by
      injection h with h
      injection h with e1 e2
      injection e2 with e2 e3
      subst e1 e2 e3
      refine .inr ⟨m1, h1, fun S => ⟨fun q => absurd q hk, fun _ cfg hc => ?_⟩⟩
      obtain ⟨j, m0, g1, g2⟩ := exec_flat (S := S) (cn := cn) k h2
      rw [hg S, hc] at g2
      exact ⟨j + 1, g1.trans (.one g2)⟩
    by_cases k3 : e.k = 3
    · rw [if_pos k3] at h
      exact hfin (r0 := ⟨1, e.a, 0⟩) (by dsimp only; omega) (fun S => by unfold gev; rw [if_neg k4, if_pos k3]) h
    rw [if_neg k3] at h
    by_cases k1 : e.k = 1
    · rw [if_pos k1] at h
      exact hfin (r0 := ⟨1, e.a, 0⟩) (by dsimp only; omega) (fun S => by unfold gev; rw [if_neg k4, if_neg k3, if_pos k1]) h
    rw [if_neg k1] at h
    by_cases k2 : e.k = 2
    · rw [if_pos k2] at h
      exact hfin (r0 := ⟨2, e.a, 0⟩) (by dsimp only; omega) (fun S => by unfold gev; rw [if_neg k4, if_neg k3, if_neg k1, if_pos k2]) h
    rw [if_neg k2] at h
    by_cases k5 : e.k = 5
    · rw [if_pos k5] at h
      injection h with h
      injection h with e1 e2
      injection e2 with e2 e3
      subst e1 e2 e3
      refine .inr ⟨m1, h1, fun S => ⟨fun _ => ?_, fun q => absurd rfl q⟩⟩
      obtain ⟨j, m0, g1, g2⟩ := exec_flat (S := S) (cn := cn) k h2
      unfold gev at g2
      rw [if_neg k4, if_neg k3, if_neg k1, if_neg k2, if_pos k5] at g2
      exact ⟨j + 1, g1.trans (.one g2)⟩
    · rw [if_neg k5] at h
      injection h with h
      injection h with e1 e2
      subst e1
      exact .inl ⟨rfl, rfl⟩
theorem coD_flat {n k R : Nat} : ∀ (d : Nat) {th : Nat} {a : V} {cn cn' : Int} {m m' : VM} {r : An}, coD n k R d th a V.nil cn m = some (r, cn', m') → FlatR th a V.nil cn m r cn' m'
  | 0, th, a, cn, cn', m, m', r, h => by cases h
  | d + 1, th, a, cn, cn', m, m', r, h => coR_flat (fun th a cn m r cn' m' h => coD_flat d h) R h
end Go.Sm
