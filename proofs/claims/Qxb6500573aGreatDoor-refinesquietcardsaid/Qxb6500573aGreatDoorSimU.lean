/- Plain: the interpreter and the machine go on together: errors, returns, the driver's turns. -/
import Derived.Test.Qxb6500573aGreatDoorSimT
namespace Go.Sm
open Go Go.Sl Go.Wl Go.Nm Go.Proofs
set_option linter.unusedVariables false
section
variable {K : Cn} {s : RnM} {m : VM} {th : Nat} {S : List Nat} {cn : Int} {ρ : Nat → Option Plc} {fi : Nat → List FI}
theorem Rl.curOk (R : Rl K s m th S cn ρ fi) : Go.Nm.curOk s := by
  have := R.ln
  have := R.cr
  exact ⟨by omega, by omega⟩
theorem Rl.thg (R : Rl K s m th S cn ρ fi) {t : Th} (ht : m.vs.threads[th]? = some t) : ThOk K s.envs ρ m th t (thG s) (fi th) := by
  obtain ⟨q, q1, q2⟩ := R.th th t ht
  rw [thG_at R.cr q1]
  exact q2
theorem Rl.few (R : Rl K s m th S cn ρ fi) : S.length + 1 ≤ 5 := by
  have h := nodup_len m.vs.threads.length (th :: S) R.sn.1 (fun x hx => by
    rcases List.mem_cons.1 hx with rfl | hx
    · exact R.ln.2.1
    · obtain ⟨t, q, _⟩ := R.sn.2 x hx
      exact lt_of q)
  have := R.ln
  rw [List.length_cons] at h
  omega
/-- Back to the one who resumed. -/
theorem Rl.switch {u : Nat} {S' : List Nat} (R : Rl K s m th (u :: S') cn ρ fi) : Rl K { s with sp := s.sp - 1, cur := s.stk.getD (s.sp - 1).toNat 0 } m u S' cn ρ fi := by
  have hsp := R.sp
  rw [List.length_cons] at hsp
  have e : s.stk.getD (s.sp - 1).toNat 0 = (u : Int) := by
    have h := R.st.2 S'.length u (by rw [List.reverse_cons]; rw [List.getElem?_append_right (by simp)]; simp)
    rw [hsp, show (((S'.length + 1 : Nat) : Int) - 1).toNat = S'.length from by omega, List.getD_eq_getElem?_getD, h]
    rfl
  obtain ⟨tu, hu1, hu2⟩ := R.sn.2 u List.mem_cons_self
  have hnd := R.sn.1
  rw [List.nodup_cons] at hnd
  refine ⟨R.nd, R.dn, e, ⟨R.ln.1, lt_of hu1, R.ln.2.2⟩, by show s.sp - 1 = _; omega, ⟨R.st.1, fun k w hk => R.st.2 k w ?_⟩, ⟨hnd.2, fun w hw => R.sn.2 w (List.mem_cons_of_mem _ hw)⟩, R.fu, R.ou, R.fr, R.ts, R.wf, R.vl, R.ij, R.lv, R.cl, R.th⟩
  rw [List.reverse_cons, List.getElem?_append_left (lt_of hk)]
  exact hk
/-- A thread that slept goes on with two values. -/
theorem wake (hK : Kok K) (R : Rl K s m th S cn ρ fi) (hmw : MW K.g K.PT m) {t : Th} (ht : m.vs.threads[th]? = some t) (hst : t.st = 2 ∨ t.st = 3) {a b : V} (ha : VVm m a) (hb : VVm m b) :
    ∃ m1 s1 w, entryM th a b m = some m1 ∧ rfin2 a b (rset s { thG s with st := 4 }) = some s1 ∧ RR K w s1 (.run S th cn m1) := by
  obtain ⟨m0, t1, c, g1, g2, g3, g4, g5, g6, _, _⟩ := hmw.wake ht hst ha hb
  have hln := R.ln
  have hcn := hmw.mi.cn
  have htn := hmw.mi.tn
  have hthr := R.thg ht
  have hcur := R.curOk
  -- what is pushed
  have e0 : m0 = setTh m th { t with stack := t.stack ++ [a, b] } ∧ t.stack.length + 2 ≤ 1000000 := by
    unfold pushM getT at g1
    rw [ht, bind1_some] at g1
    split at g1
    · rename_i q
      injection g1 with g1
      exact ⟨g1.symm, q⟩
    · cases g1
  obtain ⟨e0, hsz⟩ := e0
  subst e0
  rw [setTh_at ht] at g2
  injection g2 with g2
  subst g2
  rw [setTh_2] at g6
  have hent : entryM th a b m = some (setTh m th { t with st := 4, stack := t.stack ++ [a, b] }) := by
    unfold entryM
    rw [if_neg (by rw [hmw.mi.en]; simp), if_neg (by omega), valid_ok ha (by omega) (by omega) (by omega), bind1_some, valid_ok hb (by omega) (by omega) (by omega), bind1_some, if_pos rfl, if_pos rfl]
    unfold getT
    rw [ht, bind1_some]
    have e : (if t.st = 1 then enterM th t.fn [a] 0 false m else if t.st = 2 then pushM th [a, b] m else if t.st = 3 then pushM th [a, b] m else none) = some (setTh m th { t with stack := t.stack ++ [a, b] }) := by
      rw [if_neg (by omega)]
      rcases hst with q | q
      · rw [if_pos q]; exact g1
      · rw [if_neg (by omega), if_pos q]; exact g1
    rw [e, bind1_some, setTh_at ht, bind1_some, setTh_2]
  -- the calls
  have hW := hthr.tr.lens
  have hne : t.frames ≠ [] := fun q => by
    rcases hmw.all th t ht with ⟨w, _⟩ | ⟨_, w, _⟩ | ⟨w, _⟩
    · omega
    · rw [q] at w; simp at w
    · omega
  have htr2 := hthr.tr
  rw [show awOf t.st = 2 from if_neg (by omega)] at htr2
  have hp := htr2.pushed hne [a, b] (Nat.le_refl _) rfl
  rw [List.take_of_length_le (Nat.le_refl _)] at hp
  have hR1 := R.setT (t' := { t with st := 4, stack := t.stack ++ [a, b] }) (q' := { thG s with st := 4, vals := (thG s).vals ++ [a, b] }) (l' := fi th) ht (fun x hx => ⟨hx, by
      obtain ⟨G, hG, s', nm, y1, y2, y3⟩ := hx
      have := hW.2.2.2 G hG
      have := lt_of y1
      dsimp only
      rw [List.getElem?_append_left (by omega)]⟩) ⟨rfl, (fun q => by cases q), hthr.dp, hthr.bt, by
      dsimp only
      rw [List.length_append]
      exact hp.chg (Chg.same (m := m) (m' := setTh m th { t with st := 4, stack := t.stack ++ [a, b] }) rfl rfl) (fun _ _ h => h) fun _ _ => trivial⟩
  have hmod : rfin2 a b (rset s { thG s with st := 4 }) = some (rset s { thG s with st := 4, vals := (thG s).vals ++ [a, b] }) := by
    unfold rfin2 rpush
    have hvl : (thG s).vals.length ≤ 999998 := by omega
    rw [if_pos ⟨curOk_rset hcur _, by rw [thG_rset hcur]; dsimp only; omega⟩, b1, rset_rset hcur, thG_rset hcur]
    rw [if_pos ⟨curOk_rset hcur _, by rw [thG_rset hcur]; dsimp only; rw [List.length_append, List.length_singleton]; omega⟩, rset_rset hcur, thG_rset hcur]
    dsimp only
    rw [List.append_assoc]
    rfl
  obtain ⟨l, F, hlF⟩ : ∃ l F, fi th = l ++ [F] := by
    have hlen := hthr.tr.lens.2.2.1
    have : fi th ≠ [] := fun q => by rw [q] at hlen; exact hne (List.length_eq_zero_iff.1 hlen)
    exact ⟨(fi th).dropLast, (fi th).getLast this, (List.dropLast_concat_getLast _).symm⟩
  subst g5
  exact ⟨_, _, F.w, hent, hmod, .run g3 g4 g6 hR1 (by rw [fiUp_at]; exact hlF)⟩
/-- The thread at hand is dead: its resumer goes on, or the run is over. -/
theorem back_dead (hK : Kok K) (R : Rl K s m th S cn ρ fi) (hmw : MW K.g K.PT m) (ok : Bool) {v : V} (hv : VVm m v) : ∃ cfg s1 w, gback S ⟨if ok = true then 1 else 2, v, 0⟩ cn m = some cfg ∧ rback ok v s = some s1 ∧ RR K w s1 cfg := by
  have hcn := hmw.mi.cn
  have htn := hmw.mi.tn
  have hln := R.ln
  have hok : okV v := okV_of hv (by omega) (by omega) (by omega)
  have hsp := R.sp
  cases S with
  | nil =>
    refine ⟨_, _, 0, rfl, ?_, .fin (s := rfin (if ok = true then 0 else 12) (showVal v) s) rfl ?_ ⟨_, R.ts⟩⟩
    · unfold rback
      rw [if_neg (fun q => q hok), if_pos (by rw [hsp]; rfl)]
    · unfold rfin ansOf
      dsimp only
      rw [R.fu, R.fr, R.ou]
      cases ok <;> rfl
  | cons u S' =>
    have R1 := R.switch
    obtain ⟨tu, hu1, hu2⟩ := R.sn.2 u List.mem_cons_self
    have hf := R.few
    rw [List.length_cons] at hsp hf
    obtain ⟨m1, s1, w, h1, h2, h3⟩ := wake hK R1 hmw hu1 (.inr hu2) (VV.bool ok) hv
    refine ⟨_, s1, w, ?_, ?_, h3⟩
    · rw [gback_cons]
      have e : boolV (decide ((⟨if ok = true then 1 else 2, v, 0⟩ : An).k = 1)) = boolV ok := by cases ok <;> rfl
      rw [e]
      dsimp only
      rw [h1]
      rfl
    · unfold rback
      rw [if_neg (fun q => q hok), if_neg (by omega), if_neg (by omega)]
      dsimp only
      rw [if_neg (fun q => q R1.curOk)]
      exact h2
end
end Go.Sm
