/- Plain: the flat walk: how many threads have begun. -/
import Derived.Test.Qxb6500573aGreatDoorSX
import Derived.Test.Qxb6500573aGreatDoorCM
namespace Go.Sm
open Go Go.Sl Go.Wl Go.Proofs
set_option linter.unusedVariables false
def Jc (g : Pg) (PT : Nat → Nat → Ty) : Cfg → Prop
  | .run S th cn m => (∃ c : Cx, c.g = g ∧ c.PT = PT ∧ c.th = th ∧ Run c m) ∧ (0 ≤ cn ∧ cn ≤ sx (nf m) th) ∧ (th :: S).getLast? = some 0
  | .fin _ _ _ => True
theorem sx_setTh (m : VM) (u : Nat) (t : Th) : sx (nf (setTh m u t)) u = sx (nf m) u := sx_congr fun v hv => by
  unfold nf
  rw [setTh_ne hv]
theorem enter_set {th : Nat} {c : Int} {args : List V} {ret : Int} {pr : Bool} {m m' : VM} (h : enterM th c args ret pr m = some m') : ∃ t, m' = setTh m th t := by
  unfold enterM at h
  obtain ⟨cl, _, h⟩ := bnd1 h
  obtain ⟨p, _, h⟩ := bnd1 h
  obtain ⟨t, _, h⟩ := bnd1 h
  split at h
  · injection h with h
    exact ⟨_, h.symm⟩
  · cases h
theorem push_set {th : Nat} {vs : List V} {m m' : VM} (h : pushM th vs m = some m') : ∃ t, m' = setTh m th t := by
  unfold pushM at h
  obtain ⟨t, _, h⟩ := bnd1 h
  split at h
  · injection h with h
    exact ⟨_, h.symm⟩
  · cases h
theorem entry_J {g : Pg} {PT : Nat → Nat → Ty} {m m1 : VM} {u : Nat} {S : List Nat} {cn : Int} {a b : V} (hmw : MW g PT m) (h : entryM u a b m = some m1) (ha : VVm m a) (hb : VVm m b) (hcn : 0 ≤ cn ∧ cn ≤ sx (nf m) u) (hl : (u :: S).getLast? = some 0) : Jc g PT (.run S u cn m1) := by
  unfold entryM at h
  split at h
  · cases h
  split at h
  · cases h
  obtain ⟨r, _, h⟩ := bnd1 h
  obtain ⟨r2, _, h⟩ := bnd1 h
  split at h
  · split at h
    · obtain ⟨t, ht, h⟩ := bnd1 h
      have ht : m.vs.threads[u]? = some t := ht
      obtain ⟨m0, h0, h⟩ := bnd1 h
      obtain ⟨t1, ht1, h⟩ := bnd1 h
      have ht1 : m0.vs.threads[u]? = some t1 := ht1
      injection h with h
      subst h
      have key : ∀ {c : Cx} {t2 : Th} {t3 : Th}, m0 = setTh m u t3 → m0.vs.threads[u]? = some t2 → c.g = g → c.PT = PT → c.th = u → Run c (setTh m0 u { t2 with st := 4 }) → Jc g PT (.run S u cn (setTh m0 u { t1 with st := 4 })) := fun {c t2 t3} e0 e1 e2 e3 e4 e5 => by
        rw [ht1] at e1
        injection e1 with e1
        subst e1
        refine ⟨⟨c, e2, e3, e4, e5⟩, ⟨hcn.1, ?_⟩, hl⟩
        rw [sx_setTh, e0, sx_setTh]
        exact hcn.2
      split at h0
      · rename_i q
        obtain ⟨m2, t2, c, g1, g2, g3, g4, g5, g6, _, _⟩ := hmw.start ht q ha
        rw [g1] at h0
        injection h0 with h0
        subst h0
        obtain ⟨t3, e3⟩ := enter_set g1
        exact key e3 g2 g3 g4 g5 g6
      · have h0 : (if t.st = 2 ∨ t.st = 3 then pushM u [a, b] m else none) = some m0 := by
          split at h0
          · rename_i q
            rw [if_pos (.inl q)]
            exact h0
          · split at h0
            · rename_i q
              rw [if_pos (.inr q)]
              exact h0
            · cases h0
        split at h0
        · rename_i q
          obtain ⟨m2, t2, c, g1, g2, g3, g4, g5, g6, _, _⟩ := hmw.wake ht q ha hb
          rw [g1] at h0
          injection h0 with h0
          subst h0
          obtain ⟨t3, e3⟩ := push_set g1
          exact key e3 g2 g3 g4 g5 g6
        · cases h0
    · cases h
  · cases h
theorem ev_J {g : Pg} {PT : Nat → Nat → Ty} {S : List Nat} {th : Nat} {cn : Int} {e : Ev} {m : VM} {b : Cfg} (hE : EvOk g PT th e m) (hcn : 0 ≤ cn ∧ cn ≤ sx (nf m) th) (hl : (th :: S).getLast? = some 0) (h : gev S th cn e m = some b) : Jc g PT b := by
  obtain ⟨t, ht, s4, s3', s12⟩ := hE.st
  have hn := hE.mw.mi.hn
  have hthl := (List.getElem?_eq_some_iff.1 ht).1
  have h5 := s5_sx (nf m) (th := th) (by omega)
  have hback : ∀ {r : An}, (t.st = 2 ∨ t.st = 5) → r.v = e.a → gback S r cn m = some b → Jc g PT b := fun {r} hs hr hb => by
    cases S with
    | nil => injection hb with hb; subst hb; trivial
    | cons u S' =>
      rw [gback_cons] at hb
      obtain ⟨m1, hm1, hb⟩ := bnd1 hb
      injection hb with hb
      subst hb
      have hul : u < m.vs.threads.length := by
        unfold entryM at hm1
        split at hm1
        · cases hm1
        split at hm1
        · cases hm1
        · omega
      have h6 := s5_sx (nf m) (th := u) (by omega)
      have h7 : (nf m th).toNat = 1 := by rw [nf_at ht, decide_eq_true (by omega)]; rfl
      have h8 : (nf m u).toNat ≤ 1 := by cases nf m u <;> decide
      exact entry_J hE.mw hm1 (VV.bool _) (by rw [hr]; exact hE.va) ⟨hcn.1, by omega⟩ (by rw [List.getLast?_cons_cons] at hl; exact hl)
  unfold gev at h
  rcases hE.kd with (k | k) | k | ⟨k, hco, hne, t2, ht2, hs2⟩
  · rw [if_neg (by omega), if_neg (by omega), if_pos k] at h
    exact hback (.inr (s12 (.inl k))) rfl h
  · rw [if_neg (by omega), if_neg (by omega), if_neg (by omega), if_pos k] at h
    exact hback (.inr (s12 (.inr k))) rfl h
  · rw [if_neg (by omega), if_pos k] at h
    exact hback (.inl (s3' k)) rfl h
  · rw [if_pos k] at h
    obtain ⟨m1, hm1, h⟩ := bnd1 h
    injection h with h
    subst h
    have h6 := s5_sx (nf m) (th := e.co.toNat) (by omega)
    have h7 : (nf m th).toNat = 1 := by rw [nf_at ht, decide_eq_true (by have := s4 k; omega)]; rfl
    have hst : statusV e.co m = t2.st := by
      unfold statusV
      rw [if_neg (by omega), ht2]
    rw [hst]
    refine entry_J hE.mw hm1 hE.va VV.nil ?_ (by rw [List.getLast?_cons_cons]; exact hl)
    rcases hs2 with q | q
    · have h8 : (nf m e.co.toNat).toNat = 0 := by rw [nf_at ht2, decide_eq_false (by omega)]; rfl
      rw [if_pos q]
      omega
    · have h8 : (nf m e.co.toNat).toNat = 1 := by rw [nf_at ht2, decide_eq_true (by omega)]; rfl
      rw [if_neg (by omega)]
      omega
theorem gstep_J {g : Pg} {PT : Nat → Nat → Ty} {a b : Cfg} (hJ : Jc g PT a) (h : gstep a = some b) : Jc g PT b := by
  cases a with
  | fin r cn m => cases h
  | run S th cn m =>
    obtain ⟨⟨c, hg, hp, hth, hR⟩, hcn, hl⟩ := hJ
    subst hg hp hth
    rw [gstep_run] at h
    obtain ⟨o, ho, hS⟩ := step_ok hR
    have hfb : FB m := by obtain ⟨pc, _, _, hT⟩ := hR; exact hT.mi.fu
    have hB := (b_vstep m hR.th_lt hfb o ho).1
    have hnth := hB.nth
    have hlt := hR.th_lt
    rw [ho] at h
    have hsx : sx (nf (mOf o)) c.th = sx (nf m) c.th := sx_congr fun v hv => hB.nf hv
    cases o with
    | ok e m' =>
      have hsx1 : sx (nf m') c.th = sx (nf m) c.th := hsx
      clear hsx
      have h : (if e.k = 0 then some (.run S c.th cn m') else gOut S c.th cn (.ok e m')) = some b := h
      rcases hS with ⟨rfl, c', q1, q2, q3, q4, _⟩ | ⟨hE, _⟩
      · rw [if_pos (show ev0.k = 0 from rfl)] at h
        injection h with h
        subst h
        exact ⟨⟨c', q1, q2, q3, q4⟩, ⟨hcn.1, by rw [hsx1]; exact hcn.2⟩, hl⟩
      · rw [if_neg (by rcases hE.kd with (k | k) | k | ⟨k, _⟩ <;> omega)] at h
        exact ev_J hE ⟨hcn.1, by rw [hsx1]; exact hcn.2⟩ hl h
    | thr v m' =>
      have hsx : sx (nf m') c.th = sx (nf m) c.th := hsx
      obtain ⟨c', ty, q1, q2, q3, q4, q5, q6, q7, q8⟩ := hS
      obtain ⟨r, hr, hr2⟩ := unwind_ok q4 q8 q5
      rw [q1, q2, q3] at hr2
      rw [q3] at hr
      have h : bind1 (unwindM c.th v m') (fun r => if r.2.1 = true then gev S c.th cn r.1 r.2.2 else some (.run S c.th cn r.2.2)) = some b := h
      have hB2 : MoB c.th m' r.2.2 := ((n_unwind v m' (show c.th < m'.vs.threads.length from Nat.lt_of_lt_of_le hlt hnth)).2 r hr).toB hB.nn
      have hsx2 : sx (nf r.2.2) c.th = sx (nf m') c.th := sx_congr fun v hv => hB2.nf hv
      rw [hr, bind1_some] at h
      rcases hr2 with ⟨w1, w2, _⟩ | ⟨w1, c2, w2, w3, w4, w5, _⟩
      · rw [if_pos w1] at h
        exact ev_J w2 ⟨hcn.1, by rw [hsx2, hsx]; exact hcn.2⟩ hl h
      · rw [w1, if_neg (by decide)] at h
        injection h with h
        subst h
        exact ⟨⟨c2, w2, w3, w4, w5⟩, ⟨hcn.1, by rw [hsx2, hsx]; exact hcn.2⟩, hl⟩
    | trp e m' =>
      have h : gev S c.th cn (⟨5, 0, e, V.nil, V.nil⟩ : Ev) (wipeM e m') = some b := h
      unfold gev at h
      rw [if_neg (show ¬ (5 : Int) = 4 by decide), if_neg (show ¬ (5 : Int) = 3 by decide), if_neg (show ¬ (5 : Int) = 1 by decide), if_neg (show ¬ (5 : Int) = 2 by decide), if_pos rfl] at h
      injection h with h
      subst h
      trivial
theorem GS.J {g : Pg} {PT : Nat → Nat → Ty} {n : Nat} {a b : Cfg} (h : GS n a b) (hJ : Jc g PT a) : Jc g PT b := by
  induction h with
  | refl c => exact hJ
  | step h _ ih => exact ih (gstep_J hJ h)
theorem Jc.cn {g : Pg} {PT : Nat → Nat → Ty} {S : List Nat} {th : Nat} {cn : Int} {m : VM} (hJ : Jc g PT (.run S th cn m)) : (0 ≤ cn ∧ cn ≤ 4) ∧ (S = [] → th = 0) := by
  obtain ⟨⟨c, hg, hp, hth, hR⟩, ⟨h1, h2⟩, hl⟩ := hJ
  subst hg hp hth
  have hlt := hR.th_lt
  obtain ⟨pc, _, _, hT⟩ := hR
  have := sx_le (nf m) (th := c.th) (by have := hT.mi.hn; omega)
  refine ⟨by omega, fun hS => ?_⟩
  subst hS
  simpa using hl
end Go.Sm
