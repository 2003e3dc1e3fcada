/- The two machines: the single instruction. -/
import Derived.Test.Qxb6500572aGreatDoorNR
namespace Go.Wl
open Go Go.Sl
set_option linter.unusedVariables false
variable {E : RE} {N : Nat} {src : List Ins} {i : Nat} {op : Int} {hh kp : Nat} {d : Int} {R R' : RS} {loc loc' : List W} {c : Ins} {q : RR}
theorem run_stop (hs : R.small = true) (hc : src[i]? = some c) (h5 : ¬ (1 ≤ c.op ∧ c.op ≤ 5)) (h : stepM E (runM E N) R loc c d = some q) (hq : q.2.1 ≠ 0 ∨ q.1 ≠ -1) : runM E (N + 1) ⟨src, i, false, op, hh, kp, d⟩ R loc = some q := by
  show taskM E (runM E N) _ R loc = _
  unfold taskM
  dsimp only
  rw [if_neg (by rw [hs]; simp), if_neg (by simp), hc]
  dsimp only
  rw [if_neg (by omega), if_neg (by omega), if_neg (by omega), h, Option.bind_some, if_pos hq]
theorem run_next (hs : R.small = true) (hc : src[i]? = some c) (h5 : ¬ (1 ≤ c.op ∧ c.op ≤ 5)) (h : stepM E (runM E N) R loc c d = some (-1, 0, R', loc')) (hn : runM E N ⟨src, i + 1, false, op, hh, kp, d⟩ R' loc' = some q) : runM E (N + 1) ⟨src, i, false, op, hh, kp, d⟩ R loc = some q := by
  show taskM E (runM E N) _ R loc = _
  unfold taskM
  dsimp only
  rw [if_neg (by rw [hs]; simp), if_neg (by simp), hc]
  dsimp only
  rw [if_neg (by omega), if_neg (by omega), if_neg (by omega), h, Option.bind_some, if_neg (by simp)]
  exact hn
theorem run_end (hs : R.small = true) (hc : src[i]? = some c) (h5 : c.op = 5) : runM E (N + 1) ⟨src, i, false, op, hh, kp, d⟩ R loc = some (-1, 0, R, loc) := by
  show taskM E (runM E N) _ R loc = _
  unfold taskM
  dsimp only
  rw [if_neg (by rw [hs]; simp), if_neg (by simp), hc]
  dsimp only
  rw [if_pos h5]
theorem run_else (hs : R.small = true) (hc : src[i]? = some c) (h5 : c.op = 4) : runM E (N + 1) ⟨src, i, false, op, hh, kp, d⟩ R loc = some (-1, 0, R.tick, loc) := by
  show taskM E (runM E N) _ R loc = _
  unfold taskM
  dsimp only
  rw [if_neg (by rw [hs]; simp), if_neg (by simp), hc]
  dsimp only
  rw [if_neg (by omega), if_pos h5]
theorem run_bstop (hs : R.small = true) (hc : src[i]? = some c) (h1 : c.op = 1 ∨ c.op = 2 ∨ c.op = 3) (h : blockM E (runM E N) R loc src i c d = some q) (hq : q.2.1 ≠ 0 ∨ q.1 ≠ -1) : runM E (N + 1) ⟨src, i, false, op, hh, kp, d⟩ R loc = some q := by
  show taskM E (runM E N) _ R loc = _
  unfold taskM
  dsimp only
  rw [if_neg (by rw [hs]; simp), if_neg (by simp), hc]
  dsimp only
  rw [if_neg (by omega), if_neg (by omega), if_pos h1, h, Option.bind_some, if_pos hq]
theorem run_bnext (hs : R.small = true) (hc : src[i]? = some c) (h1 : c.op = 1 ∨ c.op = 2 ∨ c.op = 3) (h : blockM E (runM E N) R loc src i c d = some (-1, 0, R', loc')) (hn : runM E N ⟨src, ((ends src i).2 + 1).toNat, false, op, hh, kp, d⟩ R' loc' = some q) : runM E (N + 1) ⟨src, i, false, op, hh, kp, d⟩ R loc = some q := by
  show taskM E (runM E N) _ R loc = _
  unfold taskM
  dsimp only
  rw [if_neg (by rw [hs]; simp), if_neg (by simp), hc]
  dsimp only
  rw [if_neg (by omega), if_neg (by omega), if_pos h1, h, Option.bind_some, if_neg (by simp)]
  exact hn
/-- A round of a block. -/
theorem run_round (hs : R.small = true) {r : RR} (hr : runM E N ⟨src, i, false, op, hh, kp, d⟩ R loc = some r) : runM E (N + 1) ⟨src, i, true, op, hh, kp, d⟩ R loc = (if r.2.1 ≠ 0 ∨ r.1 < 0 then some r
      else if 0 < r.1 then (if r.1 ≤ 4294967295 then some (r.1 - 1, r.2) else none)
      else if r.2.2.1.st.length < hh + kp ∨ 1000000 < r.2.2.1.st.length then none
      else if op = 2 then runM E N ⟨src, i, true, op, hh, kp, d⟩ { r.2.2.1 with st := r.2.2.1.st.take hh ++ topW r.2.2.1.st kp } r.2.2.2
      else some (-1, 0, { r.2.2.1 with st := r.2.2.1.st.take hh ++ topW r.2.2.1.st kp }, r.2.2.2)) := by
  show taskM E (runM E N) _ R loc = _
  unfold taskM
  dsimp only
  rw [if_neg (by rw [hs]; simp), if_pos rfl, hr, Option.bind_some]
/-- At a place, with all that is known there. -/
structure Here (E : RE) (m : Mod) (P : Prog) (o : Op1) (mem : Mem) (args : List Val) (k : Nat) (u : Fun) (T : Typ) (fsM : List Fm) (uM : Fm) (hp : Pic P u T fsM uM (codeOf m k)) (B BM : List W) (FB : List Fr) (x : VM) (R : RS) (loc ops : List W) (i : Nat) : Prop where
  env : EnvOk E m P o mem
  hu : P.funs[k]? = some u
  hk : m.imports.length ≤ k
  bel : Bel B BM
  hi : i < (codeOf m k).length
  live : liveK (hp.kk i).cs
  f : Frm P k u T B BM FB x R loc ops (posOf (codeOf m k) i)
  g : Gd P mem o args x
def mes (o : Op1) (R : RS) (n i : Nat) : Nat := (o.b - R.used).toNat * 100 + (n - i)
variable {m : Mod} {P : Prog} {o : Op1} {mem : Mem} {args : List Val} {k : Nat} {u : Fun} {T : Typ} {fsM : List Fm} {uM : Fm} {hp : Pic P u T fsM uM (codeOf m k)} {B BM : List W} {FB : List Fr} {x : VM} {ops : List W}
/-- What is to be shown of a place. -/
def Goes (E : RE) (m : Mod) (P : Prog) (o : Op1) (k : Nat) (u : Fun) (T : Typ) {fsM : List Fm} {uM : Fm} (hp : Pic P u T fsM uM (codeOf m k)) (B BM : List W) (FB : List Fr) (x : VM) (R : RS) (loc : List W) (i : Nat) : Prop :=
  ∀ op hh kp, ∃ N q, runM E N ⟨codeOf m k, i, false, op, hh, kp, FB.length + 1⟩ R loc = some q ∧ Out P k u T B BM FB o.b (codeOf m k) x R (posOf (codeOf m k) (endX (codeOf m k) (topC (hp.kk i).cs))) (hp.kk i).cs q
def SeqN (E : RE) (m : Mod) (P : Prog) (o : Op1) (mem : Mem) (args : List Val) (n : Nat) : Prop :=
  ∀ k u T fsM uM (hp : Pic P u T fsM uM (codeOf m k)) B BM FB x R loc ops i, Here E m P o mem args k u T fsM uM hp B BM FB x R loc ops i → mes o R (codeOf m k).length i < n → Goes E m P o k u T hp B BM FB x R loc i
theorem Pic.csl {src : List Ins} (hp : Pic P u T fsM uM src) : ∀ i, i ≤ src.length → (hp.kk i).cs.length ≤ i + 1
  | 0, _ => by show (Km.start uM).cs.length ≤ 1; simp [Km.start]
  | i + 1, hi => by
    have ih := Pic.csl hp i (by omega)
    have h := hp.cs (i := i) (by omega)
    rw [h]
    unfold csM
    repeat' split
    all_goals (simp; try omega)
section
variable (h : Here E m P o mem args k u T fsM uM hp B BM FB x R loc ops i)
include h
theorem Here.small : R.small = true := h.f.small h.bel h.env.T h.g
theorem Here.at_ : (codeOf m k)[i]? = some ((codeOf m k)[i]'h.hi) := List.getElem?_eq_getElem h.hi
theorem Here.wl : wellP ((codeOf m k)[i]'h.hi).op ((codeOf m k)[i]'h.hi).imm ((codeOf m k)[i]'h.hi).tab.length := by
  have := (hp.wl _ (List.getElem_mem h.hi)).1
  unfold well at this
  simpa using this
theorem Here.go_end (h5 : ((codeOf m k)[i]'h.hi).op = 5) : Goes E m P o k u T hp B BM FB x R loc i := fun op hh kp => by
  refine ⟨1, _, run_end h.small h.at_ h5, .fell x R loc ops (.refl x) (Int.le_refl _) ?_⟩
  rw [show topC (hp.kk i).cs = (hp.kk i).top from rfl, hp.endAt h.hi h5]
  exact h.f
theorem Here.go_else (h4 : ((codeOf m k)[i]'h.hi).op = 4) : Goes E m P o k u T hp B BM FB x R loc i := fun op hh kp => by
  have hf : u.code[posOf (codeOf m k) i]? = some ⟨4, (posOf (codeOf m k) (ends (codeOf m k) (hp.kk i).top.at_.toNat).2.toNat : Nat), 0, 0⟩ := by
    have := hp.get h.hi (k := 0) (f := ⟨4, (posOf (codeOf m k) (ends (codeOf m k) (hp.kk i).top.at_.toNat).2.toNat : Nat), 0, 0⟩) (by unfold emM; rw [if_neg (by omega), if_neg (by omega), if_pos h4]; rfl)
    simpa using this
  have hio := h.f.iok hp.fl hf
  obtain ⟨j1, j2⟩ := hio.i4 rfl
  dsimp only at j1 j2
  rw [Int.toNat_natCast] at j2
  have e : endX (codeOf m k) (topC (hp.kk i).cs) = (ends (codeOf m k) (hp.kk i).top.at_.toNat).2.toNat := by
    show endX (codeOf m k) (hp.kk i).top = _
    unfold endX
    rw [if_pos (hp.elseAt h.hi h4)]
  refine ⟨1, _, run_else h.small h.at_ h4, .fell (x.fetch.setPc (posOf (codeOf m k) (ends (codeOf m k) (hp.kk i).top.at_.toNat).2.toNat : Nat)) R.tick loc ops (.one ?_) (Int.le_refl _) ?_⟩
  · rw [step_free h.f h.hu hf (.inl rfl), exec_x4 rfl]; rfl
  · rw [e]
    exact h.f.fetched.go rfl h.f.fetched.st rfl h.f.fetched.sim h.f.fetched.rs rfl j2
/-- No fuel. -/
theorem Here.go_no {f : Flat} (hf : u.code[posOf (codeOf m k) i]? = some f) (hc : ¬ (1 ≤ ((codeOf m k)[i]'h.hi).op ∧ ((codeOf m k)[i]'h.hi).op ≤ 5)) (h45 : ¬ (f.op = 4 ∨ f.op = 5)) (hb : o.b ≤ R.used) : Goes E m P o k u T hp B BM FB x R loc i := fun op hh kp => by
  obtain ⟨s1, s2⟩ := step_no h.f h.hu hf h45 hb
  refine ⟨1, (-1, 17, R.tick, loc), run_stop h.small h.at_ hc ?_ (.inl (show (17 : Int) ≠ 0 by decide)), .err 17 x x.fetch R.tick loc (.refl x) s1 (by decide) s2⟩
  unfold stepM
  rw [if_pos (by rw [h.env.fuel]; exact hb)]
theorem Here.stepP_eq {rec : Rec} {d : Int} (hb : ¬ o.b ≤ R.used) (h10 : ((codeOf m k)[i]'h.hi).op ≠ 10) : stepM E rec R loc ((codeOf m k)[i]'h.hi) d = stepP R.pay loc ((codeOf m k)[i]'h.hi) := by
  unfold stepM
  rw [if_neg (by rw [h.env.fuel]; exact hb), if_neg h10]
theorem Here.flat1 (h0 : ¬ (1 ≤ ((codeOf m k)[i]'h.hi).op ∧ ((codeOf m k)[i]'h.hi).op ≤ 8)) : u.code[posOf (codeOf m k) i]? = some ⟨((codeOf m k)[i]'h.hi).op, ((codeOf m k)[i]'h.hi).imm, 0, 0⟩ := by
  have := hp.get h.hi (k := 0) (f := ⟨((codeOf m k)[i]'h.hi).op, ((codeOf m k)[i]'h.hi).imm, 0, 0⟩) (by unfold emM; rw [if_neg (by omega), if_neg (by omega), if_neg (by omega), if_neg (by omega), if_neg (by omega), if_neg (by omega)]; rfl)
  simpa using this
theorem Here.go_zero (h0 : ((codeOf m k)[i]'h.hi).op = 0) : Goes E m P o k u T hp B BM FB x R loc i := by
  have hf := h.flat1 (by omega)
  by_cases hb : o.b ≤ R.used
  · exact h.go_no hf (by omega) (by dsimp only; omega) hb
  intro op hh kp
  refine ⟨1, (-1, 13, R.pay, loc), run_stop h.small h.at_ (by omega) ?_ (.inl (show (13 : Int) ≠ 0 by decide)), .err 13 x x.fetch.pay R.pay loc (.refl x) ?_ (by decide) h.f.paid.sim.e⟩
  · rw [h.stepP_eq hb (by omega)]
    unfold stepP
    rw [if_pos h0]
  · rw [step_pay h.f h.hu hf (by dsimp only; omega) (by omega), exec_x0 h0]; rfl
theorem Here.go_ret (h9 : ((codeOf m k)[i]'h.hi).op = 9) : Goes E m P o k u T hp B BM FB x R loc i := by
  have hf := h.flat1 (by omega)
  by_cases hb : o.b ≤ R.used
  · exact h.go_no hf (by omega) (by dsimp only; omega) hb
  intro op hh kp
  obtain ⟨τ', ht⟩ := (h.f.iok hp.fl hf).i5 (.inr h9)
  obtain ⟨o1, vals, e, vt, l1, l2, l3, l4⟩ := h.f.paid.leaves ht
  refine ⟨1, (-2, 0, R.pay, loc), run_stop h.small h.at_ (by omega) ?_ (.inr (show (-2 : Int) ≠ -1 by decide)), .ret x x.fetch.pay.leave R.pay loc o1 vals (.refl x) (by show R.used ≤ R.used + 1; omega) ?_ l1 l2 (by rw [← e]; exact h.f.rs) vt l3 ?_⟩
  · rw [h.stepP_eq hb (by omega)]
    unfold stepP
    rw [if_neg (by omega), if_neg (by omega), if_neg (by omega), if_neg (by omega), if_pos h9]
  · rw [step_pay h.f h.hu hf (by dsimp only; omega) (by omega), exec_x5 (.inr h9)]
    unfold VM.x5
    rw [l4]
  · have := (h.f.len h.bel h.env.T h.g).1
    show R.st.length ≤ 1000
    omega
/-- Going on behind a paid instruction. -/
theorem Here.go_on {n : Nat} (H : SeqN E m P o mem args n) (hn : mes o R (codeOf m k).length i ≤ n) {N0 : Nat} {y : VM} {ops' : List W} (hc : ¬ (0 ≤ ((codeOf m k)[i]'h.hi).op ∧ ((codeOf m k)[i]'h.hi).op ≤ 6) ∧ ((codeOf m k)[i]'h.hi).op ≠ 8 ∧ ((codeOf m k)[i]'h.hi).op ≠ 9)
    (hst : stepM E (runM E N0) R loc ((codeOf m k)[i]'h.hi) (FB.length + 1) = some (-1, 0, R', loc')) (hr : Reach o.b x y) (hu : R.used < R'.used) (hf : Frm P k u T B BM FB y R' loc' ops' (posOf (codeOf m k) i + 1)) : Goes E m P o k u T hp B BM FB x R loc i := fun op hh kp => by
  have hi1 : i + 1 < (codeOf m k).length := by
    have hl : i ≠ (codeOf m k).length - 1 := fun e => by
      obtain ⟨l0, l1, l2⟩ := hp.lastE
      have hw := hp.em (i := i) h.hi
      have hc1 := hp.code
      rw [show (codeOf m k).length = i + 1 by omega] at hc1
      rw [← hc1, l1, ← e] at hw
      have := List.append_cancel_left hw
      unfold emM at this
      rw [if_neg (by omega), if_neg (by omega), if_neg (by omega), if_neg (by omega)] at this
      have h0 : ((codeOf m k)[i]'h.hi).op = 5 := by
        by_cases h7 : ((codeOf m k)[i]'h.hi).op = 6 ∨ ((codeOf m k)[i]'h.hi).op = 7
        · rw [if_pos h7] at this
          have := congrArg (fun l => (l.getD 0 ⟨0, 0, 0, 0⟩ : Flat).op) this
          simpa using this.symm
        · rw [if_neg h7, if_neg (by omega)] at this
          have := congrArg (fun l => (l.getD 0 ⟨0, 0, 0, 0⟩ : Flat).op) this
          simpa using this.symm
      omega
    have := h.hi
    omega
  have hcs : (hp.kk (i + 1)).cs = (hp.kk i).cs := by
    rw [hp.cs h.hi]
    unfold csM
    rw [if_neg (by omega), if_neg (by omega), if_neg (by omega), if_neg (by omega)]
  have hpos : posOf (codeOf m k) (i + 1) = posOf (codeOf m k) i + 1 := by
    rw [posOf_succ h.hi]
    unfold szOf
    rw [if_neg (by omega), if_neg (by omega)]
  have hg := hr.gd h.env.T h.env.O h.g
  have hu0 := hg.u0
  have hus := hf.sim.e.used
  have hus0 := h.f.sim.e.used
  have hgu := h.g.u0.1
  obtain ⟨N, q, h1, h2⟩ := H k u T fsM uM hp B BM FB y R' loc' ops' (i + 1) ⟨h.env, h.hu, h.hk, h.bel, hi1, by rw [hcs]; exact h.live, by rw [hpos]; exact hf, hg⟩ (by unfold mes at hn ⊢; omega) op hh kp
  rw [hcs] at h2
  refine ⟨max N0 N + 1, q, run_next h.small h.at_ (by omega) (stepM_le (runM_le E (Nat.le_max_left _ _)) hst) (runM_le E (Nat.le_max_right _ _) _ _ _ _ h1), h2.pre hr (by omega)⟩
theorem Here.go_fall {n : Nat} (H : SeqN E m P o mem args n) (hn : mes o R (codeOf m k).length i ≤ n) {N0 : Nat} {q : Option RR} {f : Flat} (hf : u.code[posOf (codeOf m k) i]? = some f) (hfo : ¬ (f.op = 4 ∨ f.op = 5)) (hb : ¬ o.b ≤ R.used) (hc : ¬ (0 ≤ ((codeOf m k)[i]'h.hi).op ∧ ((codeOf m k)[i]'h.hi).op ≤ 6) ∧ ((codeOf m k)[i]'h.hi).op ≠ 8 ∧ ((codeOf m k)[i]'h.hi).op ≠ 9)
    (hst : stepM E (runM E N0) R loc ((codeOf m k)[i]'h.hi) (FB.length + 1) = q) (hF : Fall P k u T B BM FB x.fetch.pay f R.pay (posOf (codeOf m k) i) q) : Goes E m P o k u T hp B BM FB x R loc i := by
  obtain ⟨e, R', loc', rfl, hus, ⟨rfl, y, ops', he, hfr⟩ | ⟨he0, y, he, hE⟩⟩ := hF
  · refine h.go_on H hn hc hst (.one ?_) ?_ hfr
    · rw [step_pay h.f h.hu hf hfo (by omega), he]
    · rw [hus]; show R.used < R.used + 1; omega
  · intro op hh kp
    refine ⟨N0 + 1, _, run_stop h.small h.at_ (by omega) hst (.inl he0), .err e x y R' loc' (.refl x) ?_ he0 hE⟩
    rw [step_pay h.f h.hu hf hfo (by omega), he]
theorem Here.go_plain {n : Nat} (H : SeqN E m P o mem args n) (hn : mes o R (codeOf m k).length i ≤ n) (h11 : 11 ≤ ((codeOf m k)[i]'h.hi).op) : Goes E m P o k u T hp B BM FB x R loc i := by
  have hf := h.flat1 (by omega)
  by_cases hb : o.b ≤ R.used
  · exact h.go_no hf (by omega) (by dsimp only; omega) hb
  refine h.go_fall H hn (N0 := 0) hf (by dsimp only; omega) hb (by omega) (h.stepP_eq hb (by omega)) ?_
  exact fall h.f.paid hp.fl hf h.g.mm.ok (hp.wl _ (List.getElem_mem h.hi)).1 h11
end
end Go.Wl
