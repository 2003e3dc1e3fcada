/- Plain: the interpreter and the machine go on together: an error; a return. -/
import Derived.Test.Qxb6500573aGreatDoorSimV
namespace Go.Sm
open Go Go.Sl Go.Wl Go.Nm Go.Proofs
set_option linter.unusedVariables false
section
variable {K : Cn} {s : RnM} {m : VM} {S : List Nat} {cn : Int} {ρ : Nat → Option Plc} {fi : Nat → List FI} {c : Cx} {t : Th} {l : List FI} {F : FI} {Tk : List TkM} {W low ops : List V}
/-- The variables of the calls below an end. -/
theorem live_low {L : List FI} {k : Nat} {B : Nat} (h : ∀ G, G ∈ L.drop k → B ≤ G.B) {a : Nat} (ha : (a : Int) < (B : Int)) (hl : Live L a) : Live (L.take k) a := by
  obtain ⟨G, hG, s', nm, y1, y2, y3⟩ := hl
  rw [← List.take_append_drop k L] at hG
  rcases List.mem_append.1 hG with hG | hG
  · exact ⟨G, hG, s', nm, y1, y2, y3⟩
  · have := h G hG
    omega
theorem Vs.liveLow (Y : Vs K s m S cn ρ fi c t l F Tk W low ops) {a : Nat} (h : Live (fi c.th) a) : a < low.length := by
  rw [Y.hfi] at h
  obtain ⟨G, hG, s', nm, y1, y2, y3⟩ := h
  have := lt_of y1
  have h1 := Y.lo
  have h2 := Y.fr.ll
  have h3 := Y.fr.r
  rcases List.mem_append.1 hG with hG | hG
  · have := Y.trs.lens.2.2.2 G hG
    omega
  · rw [List.mem_singleton] at hG
    subst hG
    omega
/-- An error flies. -/
theorem thrown (hK : Kok K) (Y : Vs K s m S cn ρ fi c t l F Tk W low ops) {t1 : Th} {f1 : Fr} (h1 : t1.frames = c.fs ++ [f1]) (h2 : f1.base = c.f.base ∧ f1.ret = c.f.ret ∧ f1.prot = c.f.prot) (h3 : ∀ a, a < F.B → t1.stack[a]? = t.stack[a]?) (hs1 : ∀ a, Live (fi c.th) a → t1.stack[a]? = t.stack[a]?) (h4 : t1.st = t.st ∧ t1.fn = t.fn) {c1 : Cx} {ty : Ty} (hr : RunT c1 (setTh m c.th t1) ty) (hc1 : c1.g = K.g ∧ c1.PT = K.PT ∧ c1.th = c.th) {v : V} (hv : VVm (setTh m c.th t1) v) {T : List TkM} {X : List V} (hT : ∃ T1, T = T1 ++ [(⟨3, if c.f.prot = true then 1 else 0, (F.h : Int), none⟩ : TkM)] ∧ ∀ q, q ∈ T1 → q.k ≠ 3) (hX : W <+: X) (hXl : X.length ≤ 900000) (hTl : (T ++ Tk).length ≤ 900000) :
    ∃ cfg s' w, rthrow v (Go.Sm.ms s (T ++ Tk) X) = some s' ∧ gOut S c.th cn (.thr v (setTh m c.th t1)) = some cfg ∧ RR K w s' cfg := by
  obtain ⟨g0, g1, g2⟩ := hc1
  have R := Y.R
  have hcur := Y.cur
  have hth := R.thg Y.ht
  have hdp := hth.dp
  rw [Y.hfi, List.length_append, List.length_singleton] at hdp
  have hbt := hth.bt
  rw [Y.hfr] at hbt
  have hlens := Y.trs.lens
  have ht1 : (setTh m c.th t1).vs.threads[c.th]? = some t1 := setTh_at Y.ht
  have hl8 : l.length < 8 := by
    obtain ⟨t', q1, q2⟩ := hr.run
    rw [g2, ht1] at q1
    injection q1 with q1
    subst q1
    have h5 := q2.fl
    have h6 := q2.fr
    rw [h1] at h6
    obtain ⟨e1, _⟩ := List.append_inj' h6 rfl
    rw [← e1] at h5
    omega
  have hlo := Y.lo
  have hfr := Y.fr
  have hrr := hfr.r
  have hfb := hfr.b
  obtain ⟨T1, rfl, hT1⟩ := hT
  have hthg : thG (Go.Sm.ms s (T1 ++ [(⟨3, if c.f.prot = true then 1 else 0, (F.h : Int), none⟩ : TkM)] ++ Tk) X) = { thG s with tasks := (T1 ++ [(⟨3, if c.f.prot = true then 1 else 0, (F.h : Int), none⟩ : TkM)] ++ Tk).reverse, vals := X } := ms_th hcur _ _
  have hfl : t1.frames.length = c.fs.length + 1 := by rw [h1]; simp
  -- what the interpreter looks for
  have hunw : ∀ d : Int, unwP (T1 ++ [(⟨3, if c.f.prot = true then 1 else 0, (F.h : Int), none⟩ : TkM)] ++ Tk) d = if c.f.prot = true then (some (⟨3, 1, (F.h : Int), none⟩, Tk), d - 1) else unwP Tk (d - 1) := fun d => by
    rw [List.append_assoc, unwP_skip _ _ _ hT1]
    refine (unwP_foot _ _ _ _).trans ?_
    by_cases hp : c.f.prot = true
    · rw [if_pos hp, if_pos rfl, if_pos hp]
      rfl
    · rw [if_neg hp, if_neg (by decide), if_neg hp]
      rfl
  -- a protected call is there
  have hhit : ∀ (k : Nat) (f : Fr) (F' : FI) (Tk' : List TkM) (W' : List V), t1.frames[k + 1]? = some f → f.prot = true → (∀ (j : Nat) f', k + 1 < j → t1.frames[j]? = some f' → f'.prot = false) → unwP (T1 ++ [(⟨3, if c.f.prot = true then 1 else 0, (F.h : Int), none⟩ : TkM)] ++ Tk) ((l.length : Int) + 1) = (some (⟨3, 1, (F'.h : Int), none⟩, Tk'), (k : Int) + 1) → TRs K s.envs ρ m c.th t.stack 2 (t1.frames.take (k + 1)) ((l ++ [F]).take (k + 1)) Tk' W' f.ret.toNat → F'.h = W'.length → W' <+: X → f.base = (F'.B : Int) → (0 ≤ f.ret ∧ f.ret ≤ F'.B) → (∀ G, G ∈ (l ++ [F]).drop (k + 1) → F'.B ≤ G.B) → F'.B ≤ F.B →
      ∃ cfg s' w, rthrow v (Go.Sm.ms s (T1 ++ [(⟨3, if c.f.prot = true then 1 else 0, (F.h : Int), none⟩ : TkM)] ++ Tk) X) = some s' ∧ gOut S c.th cn (.thr v (setTh m c.th t1)) = some cfg ∧ RR K w s' cfg := by
    intro k f F' Tk' W' q1 q2 q3 q4 q5 q6 q7 q8 q9 q10 q11
    have hkl := lt_of q1
    obtain ⟨o', cs, c', w1, w2, w3, w4, w5, w6⟩ := unwind_hit (v := v) hr (t1 := t1) (by rw [g2]; exact ht1) hv q1 q2
    rw [g2] at w1 w2 w5 w6
    rw [setTh_c] at w1 w6
    have w2' : Clsd m c.th t1 f.base cs := ⟨w2.len, w2.cls, w2.unq, w2.nn⟩
    have hlk : (t1.frames.take (k + 1)).length = k + 1 := by rw [List.length_take]; omega
    have hsk := Y.sk
    have hstk : t1.stack.take f.ret.toNat = t.stack.take f.ret.toNat := by
      apply List.ext_getElem?
      intro j
      by_cases hj : j < f.ret.toNat
      · rw [List.getElem?_take_of_lt hj, List.getElem?_take_of_lt hj]
        exact h3 j (by omega)
      · rw [List.getElem?_eq_none (by rw [List.length_take]; omega), List.getElem?_eq_none (by rw [List.length_take]; omega)]
    have hbt1 : Bot t1.frames := by
      rw [h1]
      intro f' hf'
      cases hfs : c.fs with
      | nil =>
        rw [hfs] at hf' hbt
        injection hf' with hf'
        subst hf'
        rw [h2.2.2]
        exact hbt c.f rfl
      | cons a b =>
        rw [hfs] at hf' hbt
        exact hbt f' hf'
    have R' := R.popTo Y.ht (t1 := t1) q5 (fun q => by rw [q] at hlk; simp at hlk) (hbt1.take _) (at_ := f.base) (by omega) (by rw [hsk, List.length_append]; omega) (fun a ha hl => by rw [Y.hfi] at hl; exact live_low q10 (by omega) hl) hstk h4 Y.st4 w2' hs1 v1 v o'
    rw [hlk] at R'
    obtain ⟨l0, F0, hl0⟩ : ∃ l0 F0, (l ++ [F]).take (k + 1) = l0 ++ [F0] := by
      have hne : (l ++ [F]).take (k + 1) ≠ [] := fun q => by
        have := q5.lens.2.2.1
        rw [q, hlk] at this
        simp at this
      exact ⟨_, _, (List.dropLast_concat_getLast hne).symm⟩
    refine ⟨.run S c.th cn (setTh { m with vs := { m.vs with cells := cs } } c.th { t1 with opn := o', stack := t1.stack.take f.ret.toNat ++ [v1, v], frames := t1.frames.take (k + 1) }), rset s { thG s with depth := ((k + 1 : Nat) : Int), tasks := Tk'.reverse, vals := W' ++ [v1, v] }, F0.w, ?_, ?_, ?_⟩
    · unfold rthrow
      rw [if_neg (fun w => w ⟨ms_cur hcur _ _, by rw [hthg]; dsimp only; rw [List.length_reverse]; omega, by rw [hthg]; dsimp only; omega, by rw [hthg]; dsimp only; omega, by rw [hthg]; dsimp only; omega⟩)]
      rw [hthg]
      dsimp only
      rw [List.reverse_reverse, hdp]
      rw [show (((l.length + 1 : Nat) : Int)) = (l.length : Int) + 1 from by omega, q4]
      dsimp only
      have hWX : X.take F'.h = W' := by
        rw [q6]
        obtain ⟨z, rfl⟩ := q7
        exact List.take_left' rfl
      have hWl : F'.h ≤ X.length := by rw [q6]; exact q7.length_le
      rw [if_pos ⟨by omega, by omega⟩]
      rw [Int.toNat_natCast, hWX]
      unfold rpush
      rw [ms_set hcur, if_pos ⟨curOk_rset hcur _, by rw [thG_rset hcur]; dsimp only; rw [← hWX, List.length_take]; omega⟩, b1, rset_rset hcur, thG_rset hcur]
      rw [if_pos ⟨curOk_rset hcur _, by rw [thG_rset hcur]; dsimp only; rw [List.length_append, ← hWX, List.length_take, List.length_singleton]; omega⟩, rset_rset hcur, thG_rset hcur]
      dsimp only
      rw [List.append_assoc]
      rfl
    · unfold gOut
      show bind1 (unwindM c.th v (setTh m c.th t1)) _ = _
      unfold unwindM getT
      rw [ht1, bind1_some, if_pos (by omega)]
      rw [unwind_skip ht1 (t1.frames.length - 1) (k + 1) (by omega) (by omega) (fun j f' a1 a2 a3 => q3 j f' a1 a3), w1]
      rfl
    · rw [← w5] at w6 R' ⊢
      exact .run (w3.trans g0) (w4.trans g1) w6 R' (by rw [fiUp_at]; exact hl0)
  by_cases hp : c.f.prot = true
  · -- the call itself
    have hne : c.fs ≠ [] := fun q => by
      rw [q] at hbt
      have := hbt c.f rfl
      rw [hp] at this
      cases this
    obtain ⟨k, hk⟩ : ∃ k, c.fs.length = k + 1 := by
      cases hfs : c.fs with
      | nil => exact absurd hfs hne
      | cons a b => exact ⟨b.length, rfl⟩
    have hlk : l.length = k + 1 := by omega
    refine hhit k f1 F Tk W ?_ (by rw [h2.2.2]; exact hp) (fun j f' hj hj' => ?_) ?_ ?_ Y.h hX (by rw [h2.1]; exact hfb) (by rw [h2.2.1]; exact hrr) (fun G hG => ?_) (by omega)
    · rw [h1, ← hk]; simp
    · have := lt_of hj'
      omega
    · rw [hunw, if_pos hp, hlk]
      congr 1
      push_cast
      omega
    · rw [h1, ← hk, List.take_left' rfl, hk, ← hlk, List.take_left' rfl, h2.2.1]
      exact Y.trs
    · rw [← hlk, List.drop_left' rfl, List.mem_singleton] at hG
      subst hG
      exact Nat.le_refl _
  · have hp0 : c.f.prot = false := by cases hq : c.f.prot <;> simp_all
    have hb' : Bot c.fs := fun f' hf' => hbt f' (by rw [List.getElem?_append_left (lt_of hf')]; exact hf')
    have hp1 : ∀ (j : Nat) f', t1.frames[j]? = some f' → c.fs.length ≤ j → f'.prot = false := fun j f' hj hjl => by
      have := lt_of hj
      rw [h1, List.getElem?_append_right hjl, show j - c.fs.length = 0 from by omega] at hj
      injection hj with hj
      subst hj
      rw [h2.2.2]
      exact hp0
    rcases Y.trs.unw hb' ((l.length : Int) + 1 - 1) with ⟨k, f, F', Tk', W', q1, q2, q3, q4, q5, q6, q7, q8⟩ | ⟨q1, q2⟩
    · have hkl := lt_of q1
      obtain ⟨F2, Tk2, W2, x1, x2, x3, x4, x5, x6, x7, x8⟩ := Y.trs.split q1
      rw [q4] at x1
      injection x1 with x1
      subst x1
      refine hhit k f F' Tk' W' (by rw [h1, List.getElem?_append_left hkl]; exact q1) q2 (fun j f' hj hj' => ?_) ?_ ?_ q7 (q8.trans hX) x5 x6 (fun G hG => ?_) (by omega)
      · by_cases hjl : j < c.fs.length
        · rw [h1, List.getElem?_append_left hjl] at hj'
          exact q3 j f' hj hj'
        · exact hp1 j f' hj' (by omega)
      · rw [hunw, if_neg hp, q5]
        congr 1
        omega
      · rw [h1, List.take_append_of_le_length (by omega), List.take_append_of_le_length (by omega)]
        exact q6
      · rw [List.drop_append_of_le_length (by omega)] at hG
        rcases List.mem_append.1 hG with hG | hG
        · exact x7 G hG
        · rw [List.mem_singleton] at hG
          subst hG
          omega
    · -- the thread dies
      obtain ⟨o', cs, w1, w2, w3, w4⟩ := kill_x hr (t1 := t1) (by rw [g2]; exact ht1)
      rw [g2, setTh_c] at w1 w3 w4
      rw [g0, g1] at w3
      rw [g2] at w2
      have w2' : Clsd m c.th t1 0 cs := ⟨w2.len, w2.cls, w2.unq, w2.nn⟩
      have R' := R.closed (t' := { t1 with opn := o', st := 5, stack := [], frames := [] }) (q' := { thG s with st := 5, depth := 0, tasks := [], vals := [] }) (l' := []) Y.ht w2' hs1 (fun a ha hl => by omega) ⟨rfl, (fun q => by cases q), rfl, (fun f' hf' => by simp at hf'), .nil⟩
      obtain ⟨cfg, s1, w, y1, y2, y3⟩ := back_dead hK R' w3 false (w4 v hv)
      refine ⟨cfg, s1, w, ?_, ?_, y3⟩
      · unfold rthrow
        rw [if_neg (fun w => w ⟨ms_cur hcur _ _, by rw [hthg]; dsimp only; rw [List.length_reverse]; omega, by rw [hthg]; dsimp only; omega, by rw [hthg]; dsimp only; omega, by rw [hthg]; dsimp only; omega⟩)]
        rw [hthg]
        dsimp only
        rw [List.reverse_reverse, hdp, show (((l.length + 1 : Nat) : Int)) = (l.length : Int) + 1 from by omega, hunw, if_neg hp, q2]
        dsimp only
        rw [ms_set hcur]
        have e : (l.length : Int) + 1 - 1 - (c.fs.length : Int) = 0 := by omega
        rw [e]
        exact y2
      · unfold gOut
        show bind1 (unwindM c.th v (setTh m c.th t1)) _ = _
        unfold unwindM getT
        rw [ht1, bind1_some, if_pos (by omega), unwind_skip ht1 (t1.frames.length - 1) 0 (by omega) (by omega) (fun j f' a1 a2 a3 => ?_)]
        · unfold unwindL
          rw [w1]
          show gev S c.th cn ⟨2, 0, 0, v, V.nil⟩ _ = _
          unfold gev
          dsimp only
          rw [if_neg (by decide), if_neg (by decide), if_neg (by decide), if_pos rfl]
          exact y1
        · by_cases hjl : j < c.fs.length
          · rw [h1, List.getElem?_append_left hjl] at a3
            exact q1 j f' a3
          · exact hp1 j f' a3 (by omega)
end
end Go.Sm
