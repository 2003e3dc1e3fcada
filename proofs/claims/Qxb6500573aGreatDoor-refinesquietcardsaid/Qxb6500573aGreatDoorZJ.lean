/- Plain: the two parsers: parameters, literals, primaries. -/
import Derived.Test.Qxb6500573aGreatDoorZI
namespace Go.Zm
open Go Go.Sl Go.Wl Go.Nm Go.Proofs
set_option linter.unusedVariables false
set_option linter.unusedSectionVars false
/-! Parameters: the locals alive do not matter. -/
def al0 (s : PS) : PS := { s with alive := 0 }
section
variable {toks : List Tok}
theorem next_al {s s' : PS} (h : nextP toks s = some s') : nextP toks (al0 s) = some (al0 s') ∧ s'.alive = s.alive ∧ s'.loops = s.loops := by
  unfold nextP at h ⊢
  show (match toks[s.i + 1]? with | some t => _ | none => _) = _ ∧ _
  cases e : toks[s.i + 1]? with
  | none => rw [e] at h; cases h
  | some t => rw [e] at h; injection h with h; subst h; exact ⟨rfl, rfl, rfl⟩
theorem exp_al {s s' : PS} {k : Int} {b : Bool} (h : expectP toks k s = some (b, s')) : expectP toks k (al0 s) = some (b, al0 s') ∧ s'.alive = s.alive ∧ s'.loops = s.loops := by
  unfold expectP at h ⊢
  show (if s.cur.kind ≠ k then _ else _) = _ ∧ _
  split at h
  · rename_i c
    injection h with h; injection h with h1 h2; subst h1; subst h2
    rw [if_pos c]; exact ⟨rfl, rfl, rfl⟩
  · rename_i c
    obtain ⟨s1, hn, h⟩ := bnd1 h
    injection h with h; injection h with h1 h2; subst h1; subst h2
    have := next_al hn
    rw [if_neg c, this.1]
    exact ⟨rfl, this.2⟩
theorem name_al {s s' : PS} {r : Option (Int × List UInt8)} (h : nameP toks 0 s = some (r, s')) : nameP toks 0 (al0 s) = some (r, al0 s') ∧ s'.alive = s.alive ∧ s'.loops = s.loops := by
  unfold nameP at h ⊢
  show (if s.cur.kind ≠ 2 then _ else _) = _ ∧ _
  split at h
  · rename_i c
    injection h with h; injection h with h1 h2; subst h1; subst h2
    rw [if_pos c]; exact ⟨rfl, rfl, rfl⟩
  · rename_i c
    obtain ⟨_, h⟩ := Wl.grd h
    rw [if_neg c]
    unfold guardB
    rw [if_pos (show Bd (al0 s).alive from ⟨by show (-1000000 : Int) ≤ 0; decide, by show (0 : Int) ≤ 1000000; decide⟩), if_neg (fun q => absurd q.1 (by decide))]
    rw [if_neg (fun q => absurd q.1 (by decide))] at h
    obtain ⟨s1, hn, h⟩ := bnd1 h
    injection h with h; injection h with h1 h2; subst h1; subst h2
    have := next_al hn
    rw [this.1]
    exact ⟨rfl, this.2⟩
theorem par_al : ∀ (k : Nat) (l : List T) (s : PS) (r : Option (List T)) (s' : PS), paramsL toks k l s = some (r, s') → paramsL toks k l (al0 s) = some (r, al0 s') ∧ s'.alive = s.alive ∧ s'.loops = s.loops
  | 0, _, _, _, _, h => by cases h
  | k + 1, l, s, r, s', h => by
    rw [paramsL] at h ⊢
    show (if s.cur.kind ≠ 40 then _ else _) = _ ∧ _
    split at h
    · rename_i c
      rw [if_pos c]
      obtain ⟨ok, s1, hc, h⟩ := bnd2 h
      have hcm : commaP toks l.isEmpty (al0 s) = some (ok, al0 s1) ∧ s1.alive = s.alive ∧ s1.loops = s.loops := by
        unfold commaP at hc ⊢
        cases hle : l.isEmpty <;> rw [hle] at hc
        case true => injection hc with hc; injection hc with h1 h2; subst h1; subst h2; exact ⟨rfl, rfl, rfl⟩
        case false => exact exp_al hc
      rw [hcm.1, bind2_some]
      cases ok with
      | false => injection h with h; injection h with h1 h2; subst h1; subst h2; exact ⟨rfl, hcm.2⟩
      | true =>
        dsimp only [cond_true] at h ⊢
        split at h
        · rename_i c2
          injection h with h; injection h with h1 h2; subst h1; subst h2
          rw [if_pos c2]; exact ⟨rfl, hcm.2⟩
        · rename_i c2
          rw [if_neg c2]
          obtain ⟨q, s2, hn, h⟩ := bnd2 h
          have hnm := name_al hn
          rw [hnm.1, bind2_some]
          cases q with
          | none => injection h with h; injection h with h1 h2; subst h1; subst h2; exact ⟨rfl, hnm.2.1.trans hcm.2.1, hnm.2.2.trans hcm.2.2⟩
          | some q =>
            dsimp only at h ⊢
            split at h
            · rename_i c3
              rw [if_pos c3]
              have := par_al k _ _ _ _ h
              exact ⟨this.1, this.2.1.trans (hnm.2.1.trans hcm.2.1), this.2.2.trans (hnm.2.2.trans hcm.2.2)⟩
            · cases h
    · rename_i c
      injection h with h; injection h with h1 h2; subst h1; subst h2
      rw [if_neg c]; exact ⟨rfl, rfl, rfl⟩
end
theorem parZL_succ (src : List UInt8) (n : Nat) (first last np : Int) (m : PZ) : parZL src (n + 1) first last np m =
    bif isZ tClose m then some (some (first, np), m)
    else bind1 (commaZ src np m) fun m1 => bind2 (nameZ src 0 (overZ np 3 m1)) fun nm m2 => if m2.err ≠ 0 then some (none, m2)
    else bind2 (addZ ⟨17, 0, 0, 0, 0, 0, nm.1, nm.2⟩ m2) fun x m3 => guardB np <| if first = 0 then parZL src n x x (np + 1) m3 else bind1 (setNx last x m3) fun m4 => parZL src n first x (np + 1) m4 := rfl
section
variable {src : List UInt8} {toks : List Tok} {rc : Rec} (hT : TOk toks) (ih : IH src toks rc)
include hT
theorem comma_eq {l : List T} {s s1 : PS} {m : PZ} {ok : Bool} (hR : Rl src toks s m) (hc : commaP toks l.isEmpty s = some (ok, s1)) : ∃ m1, commaZ src (l.length : Int) m = some m1 ∧ m1.alive = m.alive ∧ ((ok = false ∧ Fl src m1 s1) ∨ (ok = true ∧ Rl src toks s1 m1 ∧ s.i ≤ s1.i ∧ m1.nodes = m.nodes)) := by
  unfold commaP at hc
  unfold commaZ
  cases l with
  | nil =>
    injection hc with hc; injection hc with h1 h2; subst h1; subst h2
    exact ⟨m, by rw [if_neg (by simp)], rfl, .inr ⟨rfl, hR, Nat.le_refl _, rfl⟩⟩
  | cons a l =>
    dsimp only [List.isEmpty_cons, cond_false] at hc
    obtain ⟨m1, k1, k2⟩ := expR hT hR (K := 45) (by omega) (t := tComma) rfl hc
    rw [if_pos (by simp)]
    exact ⟨m1, k1, want_alive k1, k2.imp id fun q => ⟨q.1, q.2.1, by have := q.2.2.1; omega, q.2.2.2.1⟩⟩
theorem params_eq {s0 : PS} {m0 : PZ} :
    ∀ (k : Nat) (l : List T) (s : PS) (m : PZ) (first last : Int) (r : Option (List T)) (s' : PS), Rl src toks s m → m.alive = 0 → LC l m0.nodes first last m.nodes → l.length ≤ s.i → m0.nodes.length ≤ m.nodes.length → ((l = [] ∧ first = 0 ∧ last = 0) ∨ (l ≠ [] ∧ 0 < first ∧ ∃ la : Nat, last = la ∧ la ≠ 0 ∧ la < m.nodes.length)) → m.nodes.length + 4 * s0.i ≤ m0.nodes.length + 4 * s.i → paramsL toks k l s = some (r, s') →
      ∃ q m', Ev (fun (_ n : Nat) => parZL src n first last (l.length : Int) m) (q, m') ∧ ((r = none ∧ q = none ∧ Fl src m' s') ∨ ∃ l' f, r = some l' ∧ q = some (f, (l'.length : Int)) ∧ OkL src toks s0 m0 l' f s' m' 0) := by
  intro k
  induction k with
  | zero => intro l s m first last r s' _ _ _ _ _ _ _ h; cases h
  | succ k ihk =>
    intro l s m first last r s' hR hal hL hli hge hfl hgr h
    have hll : l.length < 100000 := by have := hR.lt; have := hT.len; omega
    rw [paramsL] at h
    split at h
    · rename_i hk
      have hz := isF hR (K := 40) (by omega) (t := tClose) rfl hk
      obtain ⟨ok, s1, hc, h⟩ := bnd2 h
      obtain ⟨m1, hc1, hal1, hc2⟩ := comma_eq hT hR hc
      rcases hc2 with ⟨rfl, hF⟩ | ⟨rfl, hR1, hi1, hn1⟩
      · injection h with h; injection h with h1 h2; subst h1; subst h2
        have ho : overZ (l.length : Int) 3 m1 = m1 := by unfold overZ; rw [if_neg (fun q => hF.ne q.2)]
        obtain ⟨q, m2, hq, hF2⟩ := hF.name (by rw [hal1, hal]; decide) 0
        refine ⟨none, m2, Ev.rd ?_ (fun N n => parZL_succ _ _ _ _ _ _), .inl ⟨rfl, rfl, hF2⟩⟩
        refine Ev.cf hz (Ev.b1 hc1 ?_)
        simp only [ho]
        exact Ev.b2c hq (Ev.ifp hF2.ne (Ev.pure _))
      · dsimp only [cond_true] at h
        split at h
        · rename_i hm
          injection h with h; injection h with h1 h2; subst h1; subst h2
          have ho : overZ (l.length : Int) 3 m1 = failZ 19 m1 := by unfold overZ; rw [if_pos ⟨hm, hR1.er⟩]
          have hF := failR hT hR1 (e := 19) (by decide)
          obtain ⟨q, m2, hq, hF2⟩ := hF.name (by rw [fail_alive, hal1, hal]; decide) 0
          refine ⟨none, m2, Ev.rd ?_ (fun N n => parZL_succ _ _ _ _ _ _), .inl ⟨rfl, rfl, hF2⟩⟩
          refine Ev.cf hz (Ev.b1 hc1 ?_)
          simp only [ho]
          exact Ev.b2c hq (Ev.ifp hF2.ne (Ev.pure _))
        · rename_i hm
          have ho : overZ (l.length : Int) 3 m1 = m1 := by unfold overZ; rw [if_neg (fun q => hm q.1)]
          obtain ⟨nm, s2, hx, h⟩ := bnd2 h
          obtain ⟨q, m2, hq, hres⟩ := nameR hT hR1 hx
          rcases hres with ⟨rfl, hF⟩ | ⟨rfl, hR2, hi2, hn2, ha2, _, _⟩
          · injection h with h; injection h with h1 h2; subst h1; subst h2
            refine ⟨none, m2, Ev.rd ?_ (fun N n => parZL_succ _ _ _ _ _ _), .inl ⟨rfl, rfl, hF⟩⟩
            refine Ev.cf hz (Ev.b1 hc1 ?_)
            simp only [ho]
            exact Ev.b2c hq (Ev.ifp hF.ne (Ev.pure _))
          · dsimp only at h
            first | rw [if_pos hll] at h | skip
            have hnn : m2.nodes = m.nodes := hn2.trans hn1
            have hb2 := hR2.bd hT
            have hnb := hR.nb
            have hR3 : Rl src toks s2 { m2 with nodes := m2.nodes ++ [⟨17, 0, 0, 0, 0, 0, q.1, q.2⟩] } := hR2.add (by rw [hnn]; omega) _
            have hLn : LE (.name q.2 q.1) m.nodes m2.nodes.length (m2.nodes ++ [⟨17, 0, 0, 0, 0, 0, q.1, q.2⟩]) := by rw [hnn]; exact LE.name (by have := hR.bd hT; omega)
            have hal3 : m2.alive = 0 := by rw [hR2.al, ha2, ← hR1.al, hal1, hal]
            have hl1 : (l.length : Int) + 1 = ((l ++ [T.name q.2 q.1]).length : Int) := by simp
            rcases hfl with ⟨rfl, rfl, rfl⟩ | ⟨hne, hf0, la, rfl, hla0, hla⟩
            · obtain ⟨y, m3, hev3, hres3⟩ := ihk ([] ++ [T.name q.2 q.1]) s2 { m2 with nodes := m2.nodes ++ [⟨17, 0, 0, 0, 0, 0, q.1, q.2⟩] } _ _ r s' hR3 hal3 (LC.one hL hLn.y) (by simp; omega) (by simp [hnn]; omega) (.inr ⟨by simp, by rw [hnn]; omega, m2.nodes.length, rfl, by rw [hnn]; omega, by simp⟩) (by simp [hnn]; omega) h
              refine ⟨y, m3, Ev.rd ?_ (fun N n => parZL_succ _ _ _ _ _ _), hres3⟩
              refine Ev.cf hz (Ev.b1 hc1 ?_)
              simp only [ho]
              exact Ev.b2c hq (Ev.ifn (fun q => q hR2.er) (Ev.b2c (addZ_ok hb2 _) (Ev.grd (by simp) (Ev.ifp (by first | trivial | rfl) hev3))))
            · have hqn : la < ({ m2 with nodes := m2.nodes ++ [⟨17, 0, 0, 0, 0, 0, q.1, q.2⟩] } : PZ).nodes.length := by simp [hnn]; omega
              obtain ⟨y, m3, hev3, hres3⟩ := ihk (l ++ [T.name q.2 q.1]) s2 _ first (m2.nodes.length : Int) r s' (hR3.set hqn (m2.nodes.length : Int)) hal3 (LC.more hL hLn.y hla0 hqn) (by simp only [List.length_append, List.length_singleton]; omega) (by simp [hnn]; omega) (.inr ⟨by simp, hf0, m2.nodes.length, rfl, by rw [hnn]; omega, by simp⟩) (by simp [hnn]; omega) h
              refine ⟨y, m3, Ev.rd ?_ (fun N n => parZL_succ _ _ _ _ _ _), hres3⟩
              refine Ev.cf hz (Ev.b1 hc1 ?_)
              simp only [ho]
              refine Ev.b2c hq (Ev.ifn (fun q => q hR2.er) (Ev.b2c (addZ_ok hb2 _) (Ev.grd (by omega) (Ev.ifn (by omega) (Ev.b1 (setNx_ok hqn _) ?_)))))
              rw [hl1]
              exact hev3
    · rename_i hk
      have hz := isT hR (K := 40) (by omega) (t := tClose) rfl (Decidable.not_not.1 hk)
      injection h with h; injection h with h1 h2; subst h1; subst h2
      exact ⟨some (first, (l.length : Int)), m, Ev.rd (Ev.ct hz (Ev.pure _)) (fun N n => parZL_succ _ _ _ _ _ _), .inr ⟨l, first, rfl, rfl, hR, hL.ll hll, hge, by omega⟩⟩
end
end Go.Zm
