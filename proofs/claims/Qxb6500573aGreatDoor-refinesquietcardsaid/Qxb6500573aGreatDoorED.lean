/- Plain: one fuel more: the loop, the thread, the driver. -/
import Derived.Test.Qxb6500573aGreatDoorEC
import Derived.Test.Qxb6500573aGreatDoorBFd
namespace Go.Wl
open Go Go.Sl Go.Proofs
set_option linter.unusedVariables false
def NU (th : Nat) (F : VM → Option (Ev × Bool × VM)) : Prop := ∀ m, th < m.vs.threads.length → F (bump m) = (F m).map (fun r => (r.1, r.2.1, bump r.2.2)) ∧ ∀ r, F m = some r → Mo false th m r.2.2
section
variable {α : Type} {th : Nat}
theorem NU.none : NU th (fun _ => none) := fun m _ => ⟨rfl, fun _ h => by cases h⟩
theorem NU.ret (e : Ev) (b : Bool) : NU th (fun m => some (e, b, m)) := fun m _ => ⟨rfl, fun r h => by injection h with h; subst h; exact Mo.refl _ _ _⟩
theorem NU.rd {G : VM → Option α} {F : α → VM → Option (Ev × Bool × VM)} (hG : N0 G) (hF : ∀ a, NU th (F a)) : NU th (fun m => bind1 (G m) fun a => F a m) := fun m hm => by
  dsimp only
  rw [hG m]
  cases G m with
  | none => exact ⟨rfl, fun _ h => by cases h⟩
  | some a => exact hF a m hm
theorem NU.bind1 {G : VM → Option VM} {F : VM → Option (Ev × Bool × VM)} (hG : N1 false th G) (hF : NU th F) : NU th (fun m => Go.Wl.bind1 (G m) fun m => F m) := fun m hm => by
  obtain ⟨g1, g2⟩ := hG m hm
  dsimp only
  rw [g1]
  cases hq : G m with
  | none => exact ⟨rfl, fun _ h => by cases h⟩
  | some m1 =>
    have hM := g2 m1 hq
    obtain ⟨f1, f2⟩ := hF m1 (by have := hM.nth; omega)
    exact ⟨f1, fun r h => hM.trans (f2 r h) hm⟩
theorem NU.ite {c : VM → Prop} [∀ m, Decidable (c m)] {F G : VM → Option (Ev × Bool × VM)} (hc : ∀ m, c (bump m) ↔ c m) (h1 : NU th F) (h2 : NU th G) : NU th (fun m => if c m then F m else G m) := fun m hm => by
  dsimp only
  by_cases h : c m
  · rw [if_pos h, if_pos ((hc m).2 h)]; exact h1 m hm
  · rw [if_neg h, if_neg (fun q => h ((hc m).1 q))]; exact h2 m hm
theorem n_unwindL (v : V) : ∀ n, NU th (fun m => unwindL th v m n)
  | 0 => NU.bind1 n_kill (NU.ret _ _)
  | n + 1 => NU.rd (fun _ => rfl) fun f => NU.ite (fun _ => Iff.rfl)
      (NU.bind1 (n_close _) (NU.rd (fun _ => rfl) fun f => NU.rd (fun _ => rfl) fun t => NU.ite (fun _ => Iff.rfl) (NU.bind1 (N1.bind1 (N1.upd (Upd1.setT (fun _ => { t with stack := t.stack.take f.ret.toNat, frames := t.frames.take (n + 1) }) fun _ => rfl)) (n_push _)) (NU.ret _ _)) NU.none))
      (n_unwindL v n)
theorem n_unwind (v : V) : NU th (unwindM th v) := NU.rd (fun _ => rfl) fun t => NU.ite (fun _ => Iff.rfl) (n_unwindL v _) NU.none
abbrev FB (m : VM) : Prop := 0 ≤ m.vs.fuel ∧ m.vs.fuel ≤ 9223372036854775807
theorem loop_mo : ∀ (n : Nat) {m : VM} {o : Out Ev}, th < m.vs.threads.length → FB m → loopM th n m = some o → MoB th m (mOf o)
  | 0, m, o, _, _, h => by cases h
  | n + 1, m, o, hm, hf, h => by
    unfold loopM at h
    cases hq : vstepL th m with
    | none => rw [hq] at h; cases h
    | some p =>
      obtain ⟨q1, _⟩ := b_vstep m hm hf p hq
      rw [hq] at h
      cases p with
      | ok e m1 =>
        have h : (if e.k ≠ 0 then some (Out.ok e m1) else loopM th n m1) = some o := h
        by_cases he : e.k ≠ 0
        · rw [if_pos he] at h
          injection h with h
          subst h
          exact q1
        · rw [if_neg he] at h
          have q1' : MoB th m m1 := q1
          have h1 := q1'.nth
          have h2 := q1'.fuel
          exact q1'.trans (loop_mo n (by omega) ⟨q1'.nn, by have := hf.2; omega⟩ h) hm
      | thr v m1 =>
        have h : some (Out.thr v m1) = some o := h
        injection h with h
        subst h
        exact q1
      | trp e m1 =>
        have h : some (Out.trp e m1) = some o := h
        injection h with h
        subst h
        exact q1
theorem bump_fb {m : VM} (h : 0 ≤ m.vs.fuel ∧ m.vs.fuel < 9223372036854775806) : FB (bump m) := by
  unfold FB bump
  dsimp only
  omega
theorem loop_sim : ∀ (n : Nat) {m : VM} {o : Out Ev}, th < m.vs.threads.length → (0 ≤ m.vs.fuel ∧ m.vs.fuel < 9223372036854775806) → loopM th n m = some o →
    (∃ m', o = .trp 9 m' ∧ m'.vs.fuel = 0 ∧ ∀ o2, loopM th n (bump m) = some o2 → m'.vs.out <+: (mOf o2).vs.out) ∨ ((∀ m', o ≠ .trp 9 m') ∧ loopM th n (bump m) = some (bumpO o))
  | 0, m, o, _, _, h => by cases h
  | n + 1, m, o, hm, hf, h => by
    have h0 := h
    unfold loopM at h
    cases hq : vstepL th m with
    | none => rw [hq] at h; cases h
    | some p =>
      obtain ⟨q1, q2⟩ := b_vstep m hm ⟨hf.1, by omega⟩ p hq
      rw [hq] at h
      rcases q2 with ⟨m', e1, e2, e3⟩ | ⟨e1, e2'⟩
      · subst e1
        have h : some (Out.trp 9 m') = some o := h
        injection h with h
        subst h
        refine .inl ⟨m', rfl, e2, fun o2 h2 => ?_⟩
        have := (loop_mo (n + 1) (m := bump m) hm (bump_fb hf) h2).out
        rw [e3]
        exact this
      · have e2 := e2' (by omega)
        cases p with
        | ok e m1 =>
          have h : (if e.k ≠ 0 then some (Out.ok e m1) else loopM th n m1) = some o := h
          have e4 : loopM th (n + 1) (bump m) = if e.k ≠ 0 then some (Out.ok e (bump m1)) else loopM th n (bump m1) := by
            show bindO (vstepL th (bump m)) _ = _
            rw [e2]
            rfl
          rw [e4]
          by_cases he : e.k ≠ 0
          · rw [if_pos he] at h ⊢
            injection h with h
            subst h
            exact .inr ⟨fun m' q => (by cases q), rfl⟩
          · rw [if_neg he] at h ⊢
            have q1' : MoB th m m1 := q1
            have h1 := q1'.nth
            have h2 := q1'.fuel
            exact loop_sim n (by omega) ⟨q1'.nn, by omega⟩ h
        | thr v m1 =>
          have h : some (Out.thr v m1) = some o := h
          injection h with h
          subst h
          refine .inr ⟨fun m' q => (by cases q), ?_⟩
          show bindO (vstepL th (bump m)) _ = _
          rw [e2]
          rfl
        | trp e m1 =>
          have h : some (Out.trp e m1) = some o := h
          injection h with h
          subst h
          refine .inr ⟨e1, ?_⟩
          show bindO (vstepL th (bump m)) _ = _
          rw [e2]
          rfl
/-- Out of fuel: there is none. -/
theorem loop_t9 : ∀ (n : Nat) {m m' : VM}, th < m.vs.threads.length → FB m → loopM th n m = some (.trp 9 m') → m'.vs.fuel = 0
  | 0, m, m', _, _, h => by cases h
  | n + 1, m, m', hm, hf, h => by
    unfold loopM at h
    cases hq : vstepL th m with
    | none => rw [hq] at h; cases h
    | some p =>
      obtain ⟨q1, q2⟩ := b_vstep m hm hf p hq
      rw [hq] at h
      cases p with
      | ok e m1 =>
        have h : (if e.k ≠ 0 then some (Out.ok e m1) else loopM th n m1) = some (.trp 9 m') := h
        by_cases he : e.k ≠ 0
        · rw [if_pos he] at h
          injection h with h
          cases h
        · rw [if_neg he] at h
          have q1' : MoB th m m1 := q1
          have h1 := q1'.nth
          have h2 := q1'.fuel
          exact loop_t9 n (by omega) ⟨q1'.nn, by have := hf.2; omega⟩ h
      | thr v m1 =>
        have h : some (Out.thr v m1) = some (.trp 9 m') := h
        injection h with h
        cases h
      | trp e m1 =>
        have h : some (Out.trp e m1) = some (.trp 9 m') := h
        injection h with h
        injection h with e0 e1
        subst e0 e1
        rcases q2 with ⟨m2, e1, e2, _⟩ | ⟨e1, _⟩
        · injection e1 with _ e1
          subst e1
          exact e2
        · exact absurd rfl (e1 m1)
/-- Fuel and output alone. -/
structure MoF (m m' : VM) : Prop where
  fuel : m'.vs.fuel ≤ m.vs.fuel
  nn : 0 ≤ m'.vs.fuel
  out : m.vs.out <+: m'.vs.out
  of : m'.vs.out = m.vs.out ∨ m'.vs.fuel < m.vs.fuel
theorem MoB.toF {m m' : VM} (h : MoB th m m') : MoF m m' := ⟨h.fuel, h.nn, h.out, h.of⟩
theorem MoF.refl {m : VM} (h : 0 ≤ m.vs.fuel) : MoF m m := ⟨Int.le_refl _, h, List.prefix_refl _, .inl rfl⟩
theorem MoF.trans {a b c : VM} (h1 : MoF a b) (h2 : MoF b c) : MoF a c := by
  refine ⟨Int.le_trans h2.fuel h1.fuel, h2.nn, h1.out.trans h2.out, ?_⟩
  rcases h1.of with q1 | q1
  · rcases h2.of with q2 | q2
    · exact .inl (q2.trans q1)
    · exact .inr (Int.lt_of_lt_of_le q2 h1.fuel)
  · exact .inr (Int.lt_of_le_of_lt h2.fuel q1)
def XR (th : Nat) (m : VM) (e : Ev) (m' : VM) : Prop := MoF m m' ∧ (e.k ≠ 5 → MoB th m m')
def isF (e : Ev) : Prop := e.k = 5 ∧ e.e = 9
/-- A run of a thread. -/
def XS (th : Nat) (F : VM → Option (Ev × VM)) : Prop := ∀ m, th < m.vs.threads.length → (FB m → ∀ e m', F m = some (e, m') → XR th m e m') ∧ ((0 ≤ m.vs.fuel ∧ m.vs.fuel < 9223372036854775806) → ∀ e m', F m = some (e, m') →
  ((isF e ∧ m'.vs.fuel = 0 ∧ ∀ e2 m2, F (bump m) = some (e2, m2) → m'.vs.out <+: m2.vs.out) ∨ F (bump m) = some (e, bump m')))
theorem XS.ret {e : Ev} (he : e.k ≠ 5) : XS th (fun m => some (e, m)) := fun m hm => ⟨fun hf e' m' h => by
    injection h with h; injection h with h1 h2; subst h1 h2; exact ⟨MoF.refl hf.1, fun _ => MoB.refl th hf.1⟩, fun hf e' m' h => by
    injection h with h; injection h with h1 h2; subst h1 h2; exact .inr rfl⟩
theorem XS.rd {G : VM → Option α} {F : α → VM → Option (Ev × VM)} (hG : N0 G) (hF : ∀ a, XS th (F a)) : XS th (fun m => bind1 (G m) fun a => F a m) := fun m hm => by
  have hb : ∀ a, G m = some a → (bind1 (G (bump m)) fun a => F a (bump m)) = F a (bump m) := fun a ha => by rw [hG m, ha, bind1_some]
  refine ⟨fun hf e m' h => ?_, fun hf e m' h => ?_⟩
  · obtain ⟨a, h1, h2⟩ := bnd1 h
    exact (hF a m hm).1 hf e m' h2
  · obtain ⟨a, h1, h2⟩ := bnd1 h
    dsimp only
    rw [hb a h1]
    exact (hF a m hm).2 hf e m' h2
theorem XS.ite {c : VM → Prop} [∀ m, Decidable (c m)] {F G : VM → Option (Ev × VM)} (hc : ∀ m, c (bump m) ↔ c m) (h1 : XS th F) (h2 : XS th G) : XS th (fun m => if c m then F m else G m) := fun m hm => by
  dsimp only
  by_cases h : c m
  · simp only [if_pos h, if_pos ((hc m).2 h)]; exact h1 m hm
  · simp only [if_neg h, if_neg (fun q => h ((hc m).1 q))]; exact h2 m hm
theorem XS.bind1 {G : VM → Option VM} {F : VM → Option (Ev × VM)} (hG : N1 false th G) (hF : XS th F) : XS th (fun m => Go.Wl.bind1 (G m) fun m => F m) := fun m hm => by
  obtain ⟨g1, g2⟩ := hG m hm
  refine ⟨fun hf e m' h => ?_, fun hf e m' h => ?_⟩
  · obtain ⟨m1, h1, h2⟩ := bnd1 h
    have hM := g2 m1 h1
    have hB := hM.toB hf.1
    obtain ⟨r1, r2⟩ := (hF m1 (by have := hM.nth; omega)).1 (by unfold FB; rw [hM.fuel]; exact hf) e m' h2
    exact ⟨hB.toF.trans r1, fun q => hB.trans (r2 q) hm⟩
  · obtain ⟨m1, h1, h2⟩ := bnd1 h
    have hM := g2 m1 h1
    have hb : (Go.Wl.bind1 (G (bump m)) fun m => F m) = F (bump m1) := by rw [g1, h1]; rfl
    dsimp only
    rw [hb]
    exact (hF m1 (by have := hM.nth; omega)).2 (by rw [hM.fuel]; exact hf) e m' h2
theorem run_mo {o : Out Ev} {r : Ev × Bool × VM} (h : runV th o = some r) (hm : th < (mOf o).vs.threads.length) (hf : 0 ≤ (mOf o).vs.fuel) : (r.2.1 = false → MoB th (mOf o) r.2.2) ∧ (r.2.1 = true → XR th (mOf o) r.1 r.2.2) := by
  cases o with
  | ok e m1 =>
    have h : some (e, true, m1) = some r := h
    injection h with h
    subst h
    exact ⟨fun q => (by cases q), fun _ => ⟨MoF.refl hf, fun _ => MoB.refl th hf⟩⟩
  | thr v m1 =>
    have hM := (n_unwind v m1 hm).2 r h
    have hB2 : MoB th m1 r.2.2 := hM.toB hf
    exact ⟨fun _ => hB2, fun _ => ⟨hB2.toF, fun _ => hB2⟩⟩
  | trp e m1 =>
    have h : some ((⟨5, 0, e, V.nil, V.nil⟩ : Ev), true, wipeM e m1) = some r := h
    injection h with h
    subst h
    exact ⟨fun q => (by cases q), fun _ => ⟨⟨Int.le_refl _, hf, List.prefix_refl _, .inl rfl⟩, fun q => absurd rfl q⟩⟩
theorem run_bump {o : Out Ev} (hm : th < (mOf o).vs.threads.length) : runV th (bumpO o) = (runV th o).map (fun r => (r.1, r.2.1, bump r.2.2)) := by
  cases o with
  | ok e m1 => rfl
  | thr v m1 => exact (n_unwind v m1 hm).1
  | trp e m1 => rfl
theorem x_execL (n : Nat) : ∀ k, XS th (execL th n k)
  | 0 => fun m hm => ⟨fun _ _ _ h => (by cases h), fun _ _ _ h => (by cases h)⟩
  | k + 1 => by
    have hmo : ∀ {m : VM}, th < m.vs.threads.length → FB m → ∀ e m', execL th n (k + 1) m = some (e, m') → XR th m e m' ∧ ∀ o, loopM th n m = some o → MoF (mOf o) m' := fun {m} hm hf e m' h => by
      unfold execL at h
      obtain ⟨o, h1, h⟩ := bnd1 h
      obtain ⟨r, h2, h⟩ := bnd1 h
      have hB := loop_mo n hm hf h1
      obtain ⟨r1, r2⟩ := run_mo h2 (by have := hB.nth; omega) hB.nn
      have hfin : XR th m e m' ∧ MoF (mOf o) m' := by
        by_cases hr : r.2.1 = true
        · rw [if_pos hr] at h
          injection h with h
          injection h with e1 e2
          subst e1 e2
          exact ⟨⟨hB.toF.trans (r2 hr).1, fun q => hB.trans ((r2 hr).2 q) hm⟩, (r2 hr).1⟩
        · rw [if_neg hr] at h
          have hB2 := r1 (by simpa using hr)
          have hB3 := hB.trans hB2 hm
          have h4 := hB3.fuel
          have h5 := hB3.nth
          obtain ⟨x1, x2⟩ := (x_execL n k r.2.2 (by omega)).1 ⟨hB3.nn, by have := hf.2; omega⟩ e m' h
          exact ⟨⟨hB3.toF.trans x1, fun q => hB3.trans (x2 q) hm⟩, hB2.toF.trans x1⟩
      refine ⟨hfin.1, fun o' ho' => ?_⟩
      rw [h1] at ho'
      injection ho' with ho'
      subst ho'
      exact hfin.2
    refine fun m hm => ⟨fun hf e m' h => (hmo hm hf e m' h).1, fun hf e m' h => ?_⟩
    have h0 := h
    unfold execL at h
    obtain ⟨o, h1, h⟩ := bnd1 h
    obtain ⟨r, h2, h⟩ := bnd1 h
    have hB := loop_mo n hm ⟨hf.1, by omega⟩ h1
    rcases loop_sim n hm hf h1 with ⟨m9, e1, e2, e3⟩ | ⟨e1, e2⟩
    · subst e1
      have h2 : some ((⟨5, 0, 9, V.nil, V.nil⟩ : Ev), true, wipeM 9 m9) = some r := h2
      injection h2 with h2
      subst h2
      rw [if_pos rfl] at h
      injection h with h
      injection h with q1 q2
      subst q1 q2
      refine .inl ⟨⟨rfl, rfl⟩, e2, fun e2' m2 hx => ?_⟩
      have hx0 := hx
      unfold execL at hx
      obtain ⟨o2, h3, hx⟩ := bnd1 hx
      have := (hmo (m := bump m) hm (bump_fb hf) _ _ hx0).2 o2 h3
      exact (e3 o2 h3).trans this.out
    · have e4 : execL th n (k + 1) (bump m) = if r.2.1 = true then some (r.1, bump r.2.2) else execL th n k (bump r.2.2) := by
        show bind1 (loopM th n (bump m)) _ = _
        rw [e2, bind1_some, run_bump (by have := hB.nth; omega), h2]
        rfl
      rw [e4]
      obtain ⟨r1, r2⟩ := run_mo h2 (by have := hB.nth; omega) hB.nn
      by_cases hr : r.2.1 = true
      · rw [if_pos hr] at h ⊢
        injection h with h
        injection h with q1 q2
        subst q1 q2
        exact .inr rfl
      · rw [if_neg hr] at h ⊢
        have hB2 := r1 (by simpa using hr)
        have hB3 := hB.trans hB2 hm
        have h4 := hB3.fuel
        have h5 := hB3.nth
        exact (x_execL n k r.2.2 (by omega)).2 ⟨hB3.nn, by omega⟩ e m' h
theorem x_execS (n k : Nat) : XS th (execS th n k) := XS.rd (fun _ => rfl) fun t => XS.bind1 (N1.upd (Upd1.setT (fun _ => { t with st := 4 }) fun _ => rfl)) (x_execL n k)
theorem x_exec (a c : V) (n k : Nat) : XS th (execM th a c n k) := XS.ite (fun _ => Iff.rfl) (XS.ret (by decide)) (XS.ite (fun _ => Iff.rfl) (XS.ret (by decide)) (XS.rd (fun _ => rfl) fun r => XS.rd (fun _ => rfl) fun s => XS.ite (fun _ => Iff.rfl) (XS.ite (fun _ => Iff.rfl) (XS.rd (fun _ => rfl) fun t =>
    XS.ite (fun _ => Iff.rfl) (XS.bind1 (n_enter _ _ _ _) (x_execS n k)) (XS.ite (fun _ => Iff.rfl) (XS.bind1 (n_push _) (x_execS n k)) (XS.ite (fun _ => Iff.rfl) (XS.bind1 (n_push _) (x_execS n k)) (XS.ret (by decide))))) (XS.ret (by decide))) (XS.ret (by decide))))
end
/-- The driver's run. -/
def CoS (G : Int → VM → Option (An × Int × VM)) : Prop := ∀ cn m r cn' m', G cn m = some (r, cn', m') → (FB m → MoF m m' ∧ cn ≤ cn') ∧ ((0 ≤ m.vs.fuel ∧ m.vs.fuel < 9223372036854775806) →
  ((r.k = 3 ∧ r.e = 9 ∧ m'.vs.fuel = 0 ∧ ∀ r2 cn2 m2, G cn (bump m) = some (r2, cn2, m2) → m'.vs.out <+: m2.vs.out ∧ cn' ≤ cn2) ∨ G cn (bump m) = some (r, cn', bump m')))
/-- A thread that is not there. -/
theorem exec_out {th : Nat} {a c : V} {n k : Nat} {m : VM} (h : ¬ th < m.vs.threads.length) : execM th a c n k m = some (ev6, m) := by
  unfold execM
  split
  · rfl
  · rw [if_pos (by omega)]
theorem status_bump (e : Int) (m : VM) : statusV e (bump m) = statusV e m := rfl
theorem c_coR {n k : Nat} {sub : Nat → V → V → Int → VM → Option (An × Int × VM)} (hs : ∀ th a c, CoS (sub th a c)) : ∀ (R : Nat) (th : Nat) (a c : V), CoS (coR n k sub R th a c)
  | 0, th, a, c => fun cn m r cn' m' h => by cases h
  | f + 1, th, a, c => fun cn m r cn' m' h => by
    have h0 := h
    unfold coR at h
    obtain ⟨e, m1, h1, h⟩ := bnd2 h
    by_cases hth : th < m.vs.threads.length
    · obtain ⟨x1, x2⟩ := x_exec (th := th) a c n k m hth
      -- what stands behind the event
      have hmo : ∀ {m m1 : VM} {cn : Int} {e : Ev} {r cn' m'}, 0 ≤ m1.vs.fuel → FB m1 → (if e.k = 4 then (if (0 ≤ e.co ∧ e.co ≤ 1000000) ∧ 0 ≤ cn ∧ cn ≤ 1000000000 then
          bind1 (sub e.co.toNat e.a V.nil (if statusV e.co m1 = 1 then cn + 1 else cn) m1) fun r => if r.1.k = 3 then some r else coR n k sub f th (boolV (decide (r.1.k = 1))) r.1.v r.2.1 r.2.2 else none)
        else if e.k = 3 then some (⟨1, e.a, 0⟩, cn, m1) else if e.k = 1 then some (⟨1, e.a, 0⟩, cn, m1) else if e.k = 2 then some (⟨2, e.a, 0⟩, cn, m1) else if e.k = 5 then some (⟨3, V.nil, e.e⟩, cn, m1) else some (⟨3, V.nil, 21⟩, cn, m1)) = some (r, cn', m') → MoF m1 m' ∧ cn ≤ cn' := fun {m m1 cn e r cn' m'} hnn hF h => by
        have hsame : ∀ {x : An}, some (x, cn, m1) = some (r, cn', m') → MoF m1 m' ∧ cn ≤ cn' := fun {x} h => by
          injection h with h
          injection h with h1 h2
          injection h2 with h2 h3
          subst h2 h3
          exact ⟨MoF.refl hnn, Int.le_refl _⟩
        split at h
        · split at h
          · obtain ⟨⟨r8, cn8, m8⟩, h8, h⟩ := bnd1 h
            obtain ⟨q1, q2⟩ := (hs _ _ _ _ _ _ _ _ h8).1 hF
            have hcn : cn ≤ cn8 := by split at q2 <;> omega
            dsimp only at h
            split at h
            · injection h with h
              injection h with h1 h2
              injection h2 with h2 h3
              subst h2 h3
              exact ⟨q1, hcn⟩
            · have h4 := q1.fuel
              obtain ⟨p1, p2⟩ := (c_coR hs f th _ _ _ _ _ _ _ h).1 ⟨q1.nn, by have := hF.2; omega⟩
              exact ⟨q1.trans p1, by omega⟩
          · cases h
        · split at h
          · exact hsame h
          · split at h
            · exact hsame h
            · split at h
              · exact hsame h
              · split at h
                · exact hsame h
                · exact hsame h
      refine ⟨fun hF => ?_, fun hF => ?_⟩
      · have hX := (x1 hF e m1 h1).1
        have h4 := hX.fuel
        obtain ⟨q1, q2⟩ := hmo (m := m) hX.nn ⟨hX.nn, by have := hF.2; omega⟩ h
        exact ⟨hX.trans q1, q2⟩
      · have hX := (x1 ⟨hF.1, by omega⟩ e m1 h1).1
        have h4 := hX.fuel
        have hF1 : 0 ≤ m1.vs.fuel ∧ m1.vs.fuel < 9223372036854775806 := ⟨hX.nn, by omega⟩
        rcases x2 hF e m1 h1 with ⟨⟨k5, e9⟩, z1, z2⟩ | z
        · rw [if_neg (by omega), if_neg (by omega), if_neg (by omega), if_neg (by omega), if_pos k5] at h
          injection h with h
          injection h with y1 y2
          injection y2 with y2 y3
          subst y1 y2 y3
          refine .inl ⟨rfl, e9, z1, fun r2 cn2 m2 hb => ?_⟩
          unfold coR at hb
          obtain ⟨e', m1', h1', hb⟩ := bnd2 hb
          have hX' := ((x_exec (th := th) a c n k (bump m) hth).1 (bump_fb hF) e' m1' h1').1
          have h5 := hX'.fuel
          have h6 : (bump m).vs.fuel = m.vs.fuel + 1 := rfl
          obtain ⟨q1, q2⟩ := hmo (m := m) hX'.nn ⟨hX'.nn, by omega⟩ hb
          exact ⟨(z2 e' m1' h1').trans q1.out, q2⟩
        · have hbz : coR n k sub (f + 1) th a c cn (bump m) = (if e.k = 4 then (if (0 ≤ e.co ∧ e.co ≤ 1000000) ∧ 0 ≤ cn ∧ cn ≤ 1000000000 then
              bind1 (sub e.co.toNat e.a V.nil (if statusV e.co m1 = 1 then cn + 1 else cn) (bump m1)) fun r => if r.1.k = 3 then some r else coR n k sub f th (boolV (decide (r.1.k = 1))) r.1.v r.2.1 r.2.2 else none)
            else if e.k = 3 then some (⟨1, e.a, 0⟩, cn, bump m1) else if e.k = 1 then some (⟨1, e.a, 0⟩, cn, bump m1) else if e.k = 2 then some (⟨2, e.a, 0⟩, cn, bump m1) else if e.k = 5 then some (⟨3, V.nil, e.e⟩, cn, bump m1) else some (⟨3, V.nil, 21⟩, cn, bump m1)) := by
            show bind2 (execM th a c n k (bump m)) _ = _
            rw [z]
            rfl
          rw [hbz]
          have hsame : ∀ {x : An}, some (x, cn, m1) = some (r, cn', m') → some (x, cn, bump m1) = some (r, cn', bump m') := fun {x} h => by
            injection h with h
            injection h with h1 h2
            injection h2 with h2 h3
            subst h1 h2 h3
            rfl
          by_cases k4 : e.k = 4
          · rw [if_pos k4] at h ⊢
            by_cases hg : (0 ≤ e.co ∧ e.co ≤ 1000000) ∧ 0 ≤ cn ∧ cn ≤ 1000000000
            · rw [if_pos hg] at h ⊢
              obtain ⟨⟨r8, cn8, m8⟩, h8, h⟩ := bnd1 h
              obtain ⟨p1, p2⟩ := hs _ _ _ _ _ _ _ _ h8
              obtain ⟨q1, q2⟩ := p1 ⟨hF1.1, by omega⟩
              have h7 := q1.fuel
              dsimp only at h
              rcases p2 hF1 with ⟨w1, w2, w3, w4⟩ | w
              · rw [if_pos w1] at h
                injection h with h
                injection h with y1 y2
                injection y2 with y2 y3
                subst y1 y2 y3
                refine .inl ⟨w1, w2, w3, fun r2 cn2 m2 hb => ?_⟩
                obtain ⟨⟨r9, cn9, m9⟩, h9, hb⟩ := bnd1 hb
                obtain ⟨v1, v2⟩ := w4 _ _ _ h9
                obtain ⟨u1, u2⟩ := (hs _ _ _ _ _ _ _ _ h9).1 (bump_fb hF1)
                have h10 := u1.fuel
                have h11 : (bump m1).vs.fuel = m1.vs.fuel + 1 := rfl
                dsimp only at hb
                split at hb
                · injection hb with hb
                  injection hb with y1 y2
                  injection y2 with y2 y3
                  subst y2 y3
                  exact ⟨v1, v2⟩
                · obtain ⟨t1, t2⟩ := (c_coR hs f th _ _ _ _ _ _ _ hb).1 ⟨u1.nn, by omega⟩
                  exact ⟨v1.trans t1.out, by omega⟩
              · rw [w, bind1_some]
                dsimp only
                by_cases k3 : r8.k = 3
                · rw [if_pos k3] at h ⊢
                  injection h with h
                  injection h with y1 y2
                  injection y2 with y2 y3
                  subst y1 y2 y3
                  exact .inr rfl
                · rw [if_neg k3] at h ⊢
                  exact (c_coR hs f th _ _ _ _ _ _ _ h).2 ⟨q1.nn, by omega⟩
            · rw [if_neg hg] at h; cases h
          · rw [if_neg k4] at h ⊢
            right
            by_cases j3 : e.k = 3
            · rw [if_pos j3] at h ⊢; exact hsame h
            rw [if_neg j3] at h ⊢
            by_cases j1 : e.k = 1
            · rw [if_pos j1] at h ⊢; exact hsame h
            rw [if_neg j1] at h ⊢
            by_cases j2 : e.k = 2
            · rw [if_pos j2] at h ⊢; exact hsame h
            rw [if_neg j2] at h ⊢
            by_cases j5 : e.k = 5
            · rw [if_pos j5] at h ⊢; exact hsame h
            rw [if_neg j5] at h ⊢; exact hsame h
    · rw [exec_out hth] at h1
      injection h1 with h1
      injection h1 with e1 e2
      subst e1 e2
      have h : some ((⟨3, V.nil, 21⟩ : An), cn, m) = some (r, cn', m') := h
      injection h with h
      injection h with y1 y2
      injection y2 with y2 y3
      subst y1 y2 y3
      refine ⟨fun hF => ⟨MoF.refl hF.1, Int.le_refl _⟩, fun hF => .inr ?_⟩
      unfold coR
      rw [exec_out (m := bump m) hth]
      rfl
theorem c_coD (n k R : Nat) : ∀ (d : Nat) (th : Nat) (a c : V), CoS (coD n k R d th a c)
  | 0, th, a, c => fun cn m r cn' m' h => by cases h
  | d + 1, th, a, c => c_coR (c_coD n k R d) R th a c
end Go.Wl
