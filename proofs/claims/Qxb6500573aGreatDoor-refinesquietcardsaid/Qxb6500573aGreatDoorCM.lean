/- Plain: the driver answers. -/
import Derived.Test.Qxb6500573aGreatDoorCL
namespace Go.Wl
open Go Go.Sl Go.Proofs
set_option linter.unusedVariables false
set_option maxRecDepth 100000
/-- The thread has resumed another. -/
def s3 (m : VM) (u : Nat) : Bool := match m.vs.threads[u]? with
  | some t => decide (t.st = 3)
  | none => false
/-- The thread has begun. -/
def nf (m : VM) (u : Nat) : Bool := match m.vs.threads[u]? with
  | some t => decide (t.st ≠ 1)
  | none => false
def s5 (b : Nat → Bool) : Nat := (b 0).toNat + (b 1).toNat + (b 2).toNat + (b 3).toNat + (b 4).toNat
/-- All but th. -/
def sx (b : Nat → Bool) (th : Nat) : Nat := s5 (fun u => if u = th then false else b u)
theorem s5_sx (b : Nat → Bool) {th : Nat} (h : th < 5) : s5 b = sx b th + (b th).toNat := by
  have : th = 0 ∨ th = 1 ∨ th = 2 ∨ th = 3 ∨ th = 4 := by omega
  unfold sx s5
  rcases this with rfl | rfl | rfl | rfl | rfl <;> simp <;> omega
theorem sx_congr {b b' : Nat → Bool} {th : Nat} (h : ∀ u, u ≠ th → b u = b' u) : sx b th = sx b' th := by
  unfold sx
  congr 1
  funext u
  by_cases hu : u = th
  · rw [if_pos hu, if_pos hu]
  · rw [if_neg hu, if_neg hu, h u hu]
theorem sx_le (b : Nat → Bool) {th : Nat} (h : th < 5) : sx b th ≤ 4 := by
  have h1 : ∀ x : Bool, x.toNat ≤ 1 := fun x => by cases x <;> decide
  have : th = 0 ∨ th = 1 ∨ th = 2 ∨ th = 3 ∨ th = 4 := by omega
  unfold sx s5
  have a0 := h1 (b 0)
  have a1 := h1 (b 1)
  have a2 := h1 (b 2)
  have a3 := h1 (b 3)
  have a4 := h1 (b 4)
  rcases this with rfl | rfl | rfl | rfl | rfl <;> simp <;> omega
theorem s3_at {m : VM} {u : Nat} {t : Th} (h : m.vs.threads[u]? = some t) : s3 m u = decide (t.st = 3) := by unfold s3; rw [h]
theorem nf_at {m : VM} {u : Nat} {t : Th} (h : m.vs.threads[u]? = some t) : nf m u = decide (t.st ≠ 1) := by unfold nf; rw [h]
theorem MoB.s3 {th : Nat} {m m' : VM} (h : MoB th m m') {u : Nat} (hu : u ≠ th) : Go.Wl.s3 m' u = Go.Wl.s3 m u := by
  by_cases hl : u < m.vs.threads.length
  · obtain ⟨t', q1, q2⟩ := h.st u _ hu (List.getElem?_eq_getElem hl)
    rw [s3_at q1, s3_at (List.getElem?_eq_getElem hl), q2]
  · have e : m.vs.threads[u]? = none := List.getElem?_eq_none (by omega)
    have e2 : Go.Wl.s3 m u = false := by unfold Go.Wl.s3; rw [e]
    rw [e2]
    cases hq : m'.vs.threads[u]? with
    | none => unfold Go.Wl.s3; rw [hq]
    | some t => rw [s3_at hq, h.nw u t (by omega) hq]; rfl
theorem MoB.nf {th : Nat} {m m' : VM} (h : MoB th m m') {u : Nat} (hu : u ≠ th) : Go.Wl.nf m' u = Go.Wl.nf m u := by
  by_cases hl : u < m.vs.threads.length
  · obtain ⟨t', q1, q2⟩ := h.st u _ hu (List.getElem?_eq_getElem hl)
    rw [nf_at q1, nf_at (List.getElem?_eq_getElem hl), q2]
  · have e : m.vs.threads[u]? = none := List.getElem?_eq_none (by omega)
    have e2 : Go.Wl.nf m u = false := by unfold Go.Wl.nf; rw [e]
    rw [e2]
    cases hq : m'.vs.threads[u]? with
    | none => unfold Go.Wl.nf; rw [hq]
    | some t => rw [nf_at hq, h.nw u t (by omega) hq]; rfl
section
variable (g : Pg) (PT : Nat → Nat → Ty)
structure CoIn (th : Nat) (cn : Int) (m : VM) : Prop where
  mw : MW g PT m
  tt : ∃ t, m.vs.threads[th]? = some t ∧ (t.st = 1 ∨ t.st = 2 ∨ t.st = 3)
  cn : 0 ≤ cn ∧ cn ≤ sx (nf m) th
def CoOut (th : Nat) (m : VM) (r : An) (cn' : Int) (m' : VM) : Prop :=
  (r.k = 3 ∧ (r.e = 8 ∨ r.e = 9 ∨ r.e = 10) ∧ m'.vs.tabs.length ≤ 1000 ∧ (r.e = 9 → m'.vs.fuel = 0) ∧ (0 ≤ cn' ∧ cn' ≤ 4) ∧ WipO m') ∨
  ((r.k = 1 ∨ r.k = 2) ∧ MW g PT m' ∧ VVm m' r.v ∧ (∀ u, u ≠ th → s3 m' u = s3 m u) ∧ (∃ t, m'.vs.threads[th]? = some t ∧ ((t.st = 2 ∧ th ≠ 0) ∨ t.st = 5)) ∧ 0 ≤ cn' ∧ cn' ≤ sx (nf m') th)
end
section
variable {g : Pg} {PT : Nat → Nat → Ty}
theorem CoIn.lt {th : Nat} {cn : Int} {m : VM} (h : CoIn g PT th cn m) : th < 5 := by
  obtain ⟨t, ht, _⟩ := h.tt
  have := (List.getElem?_eq_some_iff.1 ht).1
  have := h.mw.mi.hn
  omega
theorem coR_ok {n k d F : Nat} {sub : Nat → V → V → Int → VM → Option (An × Int × VM)} (hs : ∀ th a c, CoS (sub th a c)) (hF : F ≤ 9223372036854775807) (hn : F * 1000000 + 600000 < n) (hk : F * 1000000 + 600000 < k)
    (hsub : ∀ (th : Nat) (a : V) (cn : Int) (m : VM), CoIn g PT th cn m → s3 m th = false → VVm m a → m.vs.fuel ≤ F → 6 ≤ d + sx (s3 m) th → ∃ r cn' m', sub th a V.nil cn m = some (r, cn', m') ∧ CoOut g PT th m r cn' m') (R : Nat) :
    ∀ (th : Nat) (a c : V) (cn : Int) (m : VM), CoIn g PT th cn m → VVm m a → VVm m c → m.vs.fuel ≤ F → m.vs.fuel.toNat < R → 6 ≤ d + 1 + sx (s3 m) th → ∃ r cn' m', coR n k sub R th a c cn m = some (r, cn', m') ∧ CoOut g PT th m r cn' m' := by
  induction R with
  | zero => intro th a c cn m _ _ _ _ h; exact absurd h (Nat.not_lt_zero _)
  | succ R ih =>
    intro th a c cn m hI ha hc hfF hR h6
    have hth5 := hI.lt
    obtain ⟨t, ht, hst⟩ := hI.tt
    have hfu := hI.mw.mi.fu
    have hcn := hI.cn
    have hmul : m.vs.fuel.toNat * 1000000 ≤ F * 1000000 := Nat.mul_le_mul_right _ (by omega)
    obtain ⟨e, m1, h1, hX⟩ := execM_ok hI.mw ht hst ha hc (n := n) (k := k) (Nat.lt_of_le_of_lt (Nat.add_le_add_right hmul _) hn) (Nat.lt_of_le_of_lt (Nat.add_le_add_right hmul _) hk)
    have hxr := (x_exec (th := th) a c n k m (List.getElem?_eq_some_iff.1 ht).1).1 ⟨hfu.1, by omega⟩ e m1 h1
    unfold coR
    rw [h1, bind2_some]
    have hsx4 := sx_le (nf m) hth5
    rcases hX with ⟨hE, h4⟩ | ⟨k5, e5, tb5, f9, wp⟩
    · have hk5 : e.k ≠ 5 := by rcases hE.kd with (k | k) | k | ⟨k, _⟩ <;> omega
      have hB := hxr.2 hk5
      obtain ⟨t1, ht1, s4, s3', s12⟩ := hE.st
      have hs3 : ∀ u, u ≠ th → s3 m1 u = s3 m u := fun u hu => hB.s3 hu
      have hnf : sx (nf m1) th = sx (nf m) th := sx_congr fun u hu => hB.nf hu
      by_cases k4 : e.k = 4
      · rw [if_pos k4]
        rcases hE.kd with (k | k) | k | ⟨_, hco, hne, tc, htc, hstc⟩
        · omega
        · omega
        · omega
        have hlen := hE.mw.mi.hn
        rw [if_pos (by omega)]
        have hco5 : e.co.toNat < 5 := by omega
        have hne' : e.co.toNat ≠ th := by omega
        have hth3 : t1.st = 3 := s4 k4
        have hfu1 : m1.vs.fuel < m.vs.fuel := h4 k4
        have hstat : statusV e.co m1 = tc.st := by
          unfold statusV
          rw [if_neg (by omega), htc]
        rw [hstat]
        have n1 : nf m1 th = true := by rw [nf_at ht1, hth3]; rfl
        have b1 := s5_sx (nf m1) hth5
        have b2 := s5_sx (nf m1) hco5
        rw [n1] at b1
        have hcn1 : 0 ≤ (if tc.st = 1 then cn + 1 else cn) ∧ (if tc.st = 1 then cn + 1 else cn) ≤ sx (nf m1) e.co.toNat := by
          by_cases hf1 : tc.st = 1
          · have n2 : nf m1 e.co.toNat = false := by rw [nf_at htc, hf1]; rfl
            rw [n2] at b2
            rw [if_pos hf1]
            simp only [Bool.toNat_true, Bool.toNat_false] at b1 b2
            omega
          · have n2 : nf m1 e.co.toNat = true := by rw [nf_at htc]; exact decide_eq_true hf1
            rw [n2] at b2
            rw [if_neg hf1]
            simp only [Bool.toNat_true] at b1 b2
            omega
        have c3co : s3 m1 e.co.toNat = false := by rw [s3_at htc]; exact decide_eq_false (by omega)
        have c3th : s3 m1 th = true := by rw [s3_at ht1]; exact decide_eq_true hth3
        have d1 := s5_sx (s3 m1) hth5
        have d2 := s5_sx (s3 m1) hco5
        rw [c3th] at d1
        rw [c3co] at d2
        have d3 : sx (s3 m1) th = sx (s3 m) th := sx_congr hs3
        simp only [Bool.toNat_true, Bool.toNat_false] at d1 d2
        obtain ⟨r8, cn8, m8, g1, g2⟩ := hsub e.co.toNat e.a _ m1 ⟨hE.mw, ⟨tc, htc, by omega⟩, hcn1⟩ c3co hE.va (by omega) (by omega)
        have hmo8 := ((hs _ _ _ _ _ _ _ _ g1).1 ⟨hE.mw.mi.fu.1, by omega⟩).1
        rw [g1, bind1_some]
        dsimp only
        rcases g2 with q | ⟨q1, q2, q3, q4, ⟨t8, q5, q6⟩, q7⟩
        · rw [if_pos q.1]
          exact ⟨_, _, _, rfl, .inl q⟩
        · rw [if_neg (by omega)]
          have hfu8 := hmo8.fuel
          have s3th8 : s3 m8 th = true := by rw [q4 th (Ne.symm hne')]; exact c3th
          obtain ⟨t9, ht9, hs9⟩ : ∃ t9, m8.vs.threads[th]? = some t9 ∧ t9.st = 3 := by
            cases hq : m8.vs.threads[th]? with
            | none => unfold s3 at s3th8; rw [hq] at s3th8; cases s3th8
            | some t9 => rw [s3_at hq] at s3th8; exact ⟨t9, rfl, of_decide_eq_true s3th8⟩
          have s3co8 : s3 m8 e.co.toNat = false := by rw [s3_at q5]; exact decide_eq_false (by omega)
          have hk8 : ∀ u, u ≠ th → s3 m8 u = s3 m u := fun u hu => by
            by_cases huc : u = e.co.toNat
            · subst huc
              rw [s3co8, ← hs3 _ hu, c3co]
            · rw [q4 u huc, hs3 u hu]
          have b3 := s5_sx (nf m8) hth5
          have b4 := s5_sx (nf m8) hco5
          have n3 : nf m8 th = true := by rw [nf_at ht9, hs9]; rfl
          have n4 : nf m8 e.co.toNat = true := by rw [nf_at q5]; exact decide_eq_true (by omega)
          rw [n3] at b3
          rw [n4] at b4
          obtain ⟨r, cn', m', x1, x2⟩ := ih th (boolV (decide (r8.k = 1))) r8.v cn8 m8 ⟨q2, ⟨t9, ht9, .inr (.inr hs9)⟩, by omega⟩ (VV.bool _) q3 (by omega) (by have := hmo8.nn; omega) (by rw [sx_congr hk8]; exact h6)
          refine ⟨r, cn', m', x1, ?_⟩
          rcases x2 with y | ⟨y1, y2, y3, y4, y5⟩
          · exact .inl y
          · exact .inr ⟨y1, y2, y3, fun u hu => (y4 u hu).trans (hk8 u hu), y5⟩
      · rw [if_neg k4]
        by_cases k3 : e.k = 3
        · rw [if_pos k3]
          exact ⟨_, _, _, rfl, .inr ⟨.inl rfl, hE.mw, hE.va, hs3, ⟨t1, ht1, .inl ⟨s3' k3, hE.nz k3⟩⟩, hcn.1, by rw [hnf]; exact hcn.2⟩⟩
        rw [if_neg k3]
        have h12 : e.k = 1 ∨ e.k = 2 := by rcases hE.kd with k | k | ⟨k, _⟩ <;> omega
        by_cases k1 : e.k = 1
        · rw [if_pos k1]
          exact ⟨_, _, _, rfl, .inr ⟨.inl rfl, hE.mw, hE.va, hs3, ⟨t1, ht1, .inr (s12 h12)⟩, hcn.1, by rw [hnf]; exact hcn.2⟩⟩
        rw [if_neg k1, if_pos (by omega)]
        exact ⟨_, _, _, rfl, .inr ⟨.inr rfl, hE.mw, hE.va, hs3, ⟨t1, ht1, .inr (s12 h12)⟩, hcn.1, by rw [hnf]; exact hcn.2⟩⟩
    · rw [if_neg (by omega), if_neg (by omega), if_neg (by omega), if_neg (by omega), if_pos k5]
      exact ⟨_, _, _, rfl, .inl ⟨rfl, e5, tb5, f9, ⟨hcn.1, by omega⟩, wp⟩⟩
theorem coD_ok {n k R F : Nat} (hF : F ≤ 9223372036854775807) (hn : F * 1000000 + 600000 < n) (hk : F * 1000000 + 600000 < k) (hR : F < R) : ∀ (d : Nat) (th : Nat) (a : V) (cn : Int) (m : VM), CoIn g PT th cn m → s3 m th = false → VVm m a → m.vs.fuel ≤ F → 6 ≤ d + sx (s3 m) th → ∃ r cn' m', coD n k R d th a V.nil cn m = some (r, cn', m') ∧ CoOut g PT th m r cn' m'
  | 0, th, a, cn, m, hI, h0, ha, hf, h6 => by
    have := sx_le (s3 m) hI.lt
    omega
  | d + 1, th, a, cn, m, hI, h0, ha, hf, h6 =>
    coR_ok (d := d) (c_coD n k R d) hF hn hk (coD_ok hF hn hk hR d) R th a V.nil cn m hI ha VV.nil hf (by have := hI.mw.mi.fu; omega) h6
end
end Go.Wl
