/- Plain: the interpreter and the machine: new variables in a thread. -/
import Derived.Test.Qxb6500573aGreatDoorSim28
namespace Go.Sm
open Go Go.Sl Go.Wl Go.Nm Go.Proofs
set_option linter.unusedVariables false
section
variable {K : Cn} {s : RnM} {m : VM} {th : Nat} {S : List Nat} {cn : Int} {ρ : Nat → Option Plc} {fi : Nat → List FI}
theorem Rl.bindT (R : Rl K s m th S cn ρ fi) {t t' : Th} {q' : ThM} {l' : List FI} {news : List EvM} {o : Nat} (ht : m.vs.threads[th]? = some t) (hl : ∀ a : Nat, Live (fi th) a → Live l' a ∧ t'.stack[a]? = t.stack[a]?) (hfree : ∀ i a, ρ i = some (.stk th a) → a < o) (hnew : ∀ (j : Nat) ev, news[j]? = some ev → t'.stack[o + j]? = some ev.v ∧ Live l' (o + j)) (hwf : EnvWf (s.envs ++ news)) (hth : ThOk K (s.envs ++ news) (rhoN ρ s.envs.length th o news.length) (setTh m th t') th t' q' l') :
    Rl K (rset { s with envs := s.envs ++ news } q') (setTh m th t') th S cn (rhoN ρ s.envs.length th o news.length) (fiUp fi th l') := by
  have hc : Chg AllK s.envs ρ m (s.envs ++ news) (rhoN ρ s.envs.length th o news.length) (setTh m th t') := Chg.new rfl rfl
  have hln := R.ln
  refine ⟨R.nd, R.dn, R.cr, ?_, R.sp, R.st, ⟨R.sn.1, fun u hu => ?_⟩, R.fu, R.ou, R.fr, R.ts, hwf, fun i pl hi => ?_, fun i j pl hi hj => ?_, fun i u a hi => ?_, ⟨R.cl.1, fun j mc cl g1 g2 => (R.cl.2 j mc cl g1 g2).chg hc⟩, fun u t2 ht2 => ?_⟩
  · rw [setTh_len]
    unfold rset
    simpa using hln
  · obtain ⟨t2, q1, q2⟩ := R.sn.2 u hu
    have hne : u ≠ th := fun e => by
      have := R.sn.1
      rw [List.nodup_cons] at this
      exact this.1 (e ▸ hu)
    exact ⟨t2, by rw [setTh_ne hne]; exact q1, q2⟩
  · rcases rhoN_cases hi with ⟨hlt, hi0⟩ | ⟨j, hj, rfl, rfl⟩
    · clear hi
      obtain ⟨ev, w1, w2⟩ := R.vl i pl hi0
      refine ⟨ev, by show (s.envs ++ news)[i]? = _; rw [List.getElem?_append_left hlt]; exact w1, ?_⟩
      cases pl with
      | cel j => exact w2
      | stk u a =>
        obtain ⟨t2, x1, x2⟩ := w2
        by_cases e : u = th
        · subst e
          rw [ht] at x1
          injection x1 with x1
          subst x1
          exact ⟨t', setTh_at ht, by rw [(hl a (R.lv i u a hi0)).2]; exact x2⟩
        · exact ⟨t2, by rw [setTh_ne e]; exact x1, x2⟩
    · refine ⟨news[j], by show (s.envs ++ news)[s.envs.length + j]? = _; rw [List.getElem?_append_right (by omega), Nat.add_sub_cancel_left, List.getElem?_eq_getElem hj], t', setTh_at ht, (hnew j _ (List.getElem?_eq_getElem hj)).1⟩
  · rcases rhoN_cases hi with ⟨hlt, hi⟩ | ⟨j1, hj1, rfl, rfl⟩
    · rcases rhoN_cases hj with ⟨hlt2, hj⟩ | ⟨j2, hj2, rfl, rfl⟩
      · exact R.ij i j pl hi hj
      · have := hfree i _ hi
        omega
    · rcases rhoN_cases hj with ⟨hlt2, hj⟩ | ⟨j2, hj2, rfl, e⟩
      · have := hfree j _ hj
        omega
      · injection e with e1 e2
        omega
  · rcases rhoN_cases hi with ⟨hlt, hi0⟩ | ⟨j, hj, rfl, e⟩
    · by_cases e : u = th
      · subst e
        rw [fiUp_at]
        exact (hl a (R.lv i u a hi0)).1
      · rw [fiUp_ne _ _ e]
        exact R.lv i u a hi0
    · injection e with e1 e2
      subst e1 e2
      rw [fiUp_at]
      exact (hnew j _ (List.getElem?_eq_getElem hj)).2
  · by_cases e : u = th
    · subst e
      rw [setTh_at ht] at ht2
      injection ht2 with ht2
      subst ht2
      rw [fiUp_at]
      exact ⟨q', rset_at (s := { s with envs := s.envs ++ news }) R.cr (show u < s.ths.length by omega) _, hth⟩
    · rw [setTh_ne e] at ht2
      obtain ⟨q, q1, q2⟩ := R.th u t2 ht2
      refine ⟨q, by rw [rset_ne (s := { s with envs := s.envs ++ news }) R.cr _ e]; exact q1, q2.st, q2.fn, ?_, q2.bt, ?_⟩
      · rw [fiUp_ne _ _ e]; exact q2.dp
      · rw [fiUp_ne _ _ e]
        exact q2.tr.chg hc (fun _ _ h => h) fun _ _ => trivial
end
end Go.Sm
