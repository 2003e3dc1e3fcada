/- Plain: the interpreter and the machine go on together: a return. -/
import Derived.Test.Qxb6500573aGreatDoorSimW
namespace Go.Wl
open Go Go.Sl Go.Proofs
set_option linter.unusedSimpArgs false
set_option linter.unusedVariables false
/-- A return, exactly. -/
theorem Now.xret {c : Cx} {m : VM} {t : Th} {pc : Nat} {x : Int} (N : Now c m t pc) (hi : InsAt c pc 27 x) {S0 : List V} {a b : V} (hs : t.stack = S0 ++ [a] ++ [b]) : c.O ≤ S0.length ∧
    (c.fs = [] → ∃ (o' : List Int) (cs : List Ce), vstepL c.th m = some (.ok ⟨1, 0, 0, a, b⟩ (setTh { m with vs := { m.vs with cells := cs } } c.th { t with opn := o', st := 5, stack := [], frames := [] })) ∧ Clsd m c.th { t with stack := S0 } 0 cs ∧ MW c.g c.PT (setTh { m with vs := { m.vs with cells := cs } } c.th { t with opn := o', st := 5, stack := [], frames := [] }) ∧ VVm (setTh { m with vs := { m.vs with cells := cs } } c.th { t with opn := o', st := 5, stack := [], frames := [] }) a) ∧
    (c.fs ≠ [] → ∃ (o' : List Int) (cs : List Ce) (c' : Cx), vstepL c.th m = some (.ok ev0 (setTh { m with vs := { m.vs with cells := cs } } c.th { t with opn := o', stack := S0.take c.f.ret.toNat ++ (if c.f.prot = true then [vb1, a] else [a, b]), frames := c.fs })) ∧ Clsd m c.th { t with stack := S0 } c.f.base cs ∧ c'.g = c.g ∧ c'.PT = c.PT ∧ c'.th = c.th ∧ Run c' (setTh { m with vs := { m.vs with cells := cs } } c.th { t with opn := o', stack := S0.take c.f.ret.toNat ++ (if c.f.prot = true then [vb1, a] else [a, b]), frames := c.fs })) := by
  obtain ⟨e1, hx, hI⟩ := N.step hi
  have hsm := N.small
  have hfr := N.fr
  have hR := N.run
  have hex : ∃ st z p q, c.PT c.cl.p.toNat pc = ⟨st ++ [p, q], z⟩ := by
    cases hI with
    | @ret _ st z a b ht => exact ⟨st, z, a, b, ht⟩
    | lit ho _ _ => omega
    | una ho _ _ => omega
    | jk ho _ _ _ => omega
  obtain ⟨st, z, p, q, ht⟩ := hex
  rw [ht] at hR
  have hsl := N.thr.sl
  rw [ht, hs] at hsl
  simp only [List.length_append, List.length_cons, List.length_nil] at hsl
  have hO : c.O ≤ S0.length := by omega
  refine ⟨hO, ?_⟩
  have hR' : RunT c m ⟨(st ++ [p]) ++ [q], z⟩ := by rw [List.append_assoc]; exact hR
  obtain ⟨v, m1, g1, g2, _, g4, g5⟩ := hR'.pop
  have p1 := pop_x N.ht hs (by omega)
  rw [p1] at g1
  injection g1 with g1
  injection g1 with q1 q2
  subst q1 q2
  obtain ⟨w, m2, k1, k2, _, k4, k5⟩ := g4.pop
  have p2 := pop_x (m := setTh m c.th { t with stack := S0 ++ [a] }) (t := { t with stack := S0 ++ [a] }) (th := c.th) (S := S0) (v := a) (setTh_at N.ht) rfl (by dsimp only; rw [List.length_append, List.length_singleton]; rw [hs] at hsm; simp only [List.length_append, List.length_singleton] at hsm; omega)
  rw [p2] at k1
  injection k1 with k1
  injection k1 with q1 q2
  subst q1 q2
  rw [setTh_2] at k4 p2
  have ht2 : (setTh m c.th { t with stack := S0 }).vs.threads[c.th]? = some { t with stack := S0 } := setTh_at N.ht
  have hva : VVm (setTh m c.th { t with stack := S0 }) a := by
    have := k2
    unfold VVm at this ⊢
    rw [setTh_len] at this ⊢
    exact this
  have hvb : VVm (setTh m c.th { t with stack := S0 }) b := by
    have := g2
    unfold VVm at this ⊢
    rw [setTh_len]
    exact this
  have hret : vstepL c.th m = bind2 (retM c.th c.fs.length m) fun e m => some (.ok e m) := by
    rw [e1]
    unfold stepE
    rw [if_neg (by decide), if_neg (by decide), if_neg (by decide), if_neg (by decide), if_neg (by decide), if_pos rfl]
  have hfl : t.frames.length = c.fs.length + 1 := by rw [hfr]; simp
  have hfl8 := N.thr.fl
  refine ⟨fun h0 => ?_, fun h0 => ?_⟩
  · obtain ⟨o', cs, w1, w2, w3, w4⟩ := Go.Sm.kill_x k4 ht2
    rw [Go.Sm.setTh_c] at w1 w3 w4
    refine ⟨o', cs, ?_, ⟨w2.len, w2.cls, w2.unq, w2.nn⟩, w3, w4 a hva⟩
    rw [hret]
    unfold retM
    rw [p1, bind2_some, p2, bind2_some]
    unfold getT
    rw [ht2, bind1_some, if_pos (by dsimp only; rw [hfl, h0]; rfl), w1]
    rfl
  · have hne : c.fs.length ≠ 0 := fun q => h0 (List.length_eq_zero_iff.1 q)
    obtain ⟨k, hk⟩ : ∃ k, c.fs.length = k + 1 := ⟨c.fs.length - 1, by omega⟩
    have hat : (c.fs ++ [c.f])[k + 1]? = some c.f := by rw [← hk]; simp
    have htk : (c.fs ++ [c.f]).take (k + 1) = c.fs := by rw [← hk, List.take_left' rfl]
    have hxy : ∃ x y, (if c.f.prot = true then [vb1, a] else [a, b]) = [x, y] ∧ VVm (setTh m c.th { t with stack := S0 }) x ∧ VVm (setTh m c.th { t with stack := S0 }) y := by
      by_cases hp : c.f.prot = true
      · exact ⟨vb1, a, if_pos hp, VV.bool true, hva⟩
      · exact ⟨a, b, if_neg hp, hva, hvb⟩
    obtain ⟨x', y', hxy, hvx, hvy⟩ := hxy
    obtain ⟨o', cs, t', c', b1, b2, b3, b4, b5, b6, b7, b8, b9⟩ := k4.back hat hvx hvy
    rw [ht2] at b1
    injection b1 with b1
    subst b1
    obtain ⟨o2, cs2, x1, x2⟩ := RunX.closeX k4 ht2 c.f.base
    rw [b2] at x1
    injection x1 with x1
    have ecs : cs = cs2 := congrArg (fun w : VM => w.vs.cells) x1
    subst ecs
    rw [Go.Sm.setTh_c] at b2 b9
    rw [htk] at b9
    have ht0 : ({ m with vs := { m.vs with cells := cs } } : VM).vs.threads[c.th]? = some t := N.ht
    refine ⟨o', cs, c', ?_, ⟨x2.len, x2.cls, x2.unq, x2.nn⟩, b5, b6, b7, by rw [hxy]; exact b9⟩
    have hgf : ∀ (t' : Th) (m' : VM), m'.vs.threads[c.th]? = some t' → t'.frames = c.fs ++ [c.f] → getF m' c.th c.fs.length = some c.f := fun t' m' q1 q2 => by
      unfold getF getT
      rw [q1, bind1_some, q2, hk]
      exact hat
    rw [hret]
    unfold retM
    rw [p1, bind2_some, p2, bind2_some]
    unfold getT
    rw [ht2, bind1_some, if_neg (by dsimp only; omega), hgf _ _ ht2 hfr, bind1_some, b2, bind1_some, hgf { ({ t with stack := S0 } : Th) with opn := o' } _ (setTh_at ht0) hfr, bind1_some, setTh_at ht0, bind1_some, if_pos ⟨b3.1, b3.2⟩, setTh_2]
    unfold pushM getT
    rw [setTh_at ht0, bind1_some]
    have hlt : (S0.take c.f.ret.toNat).length + (if c.f.prot = true then [vb1, a] else [a, b]).length ≤ 1000000 := by
      rw [hxy, List.length_take]
      rw [hs] at hsm
      simp only [List.length_append, List.length_singleton, List.length_cons, List.length_nil] at hsm ⊢
      omega
    rw [if_pos hlt, bind1_some, setTh_2, setTh_at ht0, bind1_some, if_pos (by dsimp only; omega), setTh_2]
    dsimp only
    rw [show t.frames.take (t.frames.length - 1) = c.fs from by rw [hfr, List.length_append, List.length_singleton, Nat.add_sub_cancel, List.take_left' rfl]]
    rfl
end Go.Wl
namespace Go.Sm
open Go Go.Sl Go.Wl Go.Nm Go.Proofs
set_option linter.unusedVariables false
section
variable {K : Cn} {s : RnM} {m : VM} {S : List Nat} {cn : Int} {ρ : Nat → Option Plc} {fi : Nat → List FI} {c : Cx} {t : Th} {l : List FI} {F : FI} {Tk : List TkM} {W low ops : List V}
theorem gstep_ev {S : List Nat} {th : Nat} {cn : Int} {m m' : VM} {e : Ev} (h : vstepL th m = some (.ok e m')) (he : e.k ≠ 0) : gstep (.run S th cn m) = gev S th cn e m' := by
  rw [gstep_run, h]
  show (if e.k = 0 then some (Cfg.run S th cn m') else gOut S th cn (.ok e m')) = _
  rw [if_neg he]
  rfl
theorem gstep_thr {S : List Nat} {th : Nat} {cn : Int} {m m' : VM} {v : V} (h : vstepL th m = some (.thr v m')) : gstep (.run S th cn m) = gOut S th cn (.thr v m') := by
  rw [gstep_run, h]
  rfl
theorem gstep_trp {S : List Nat} {th : Nat} {cn : Int} {m m' : VM} {e : Int} (h : vstepL th m = some (.trp e m')) : gstep (.run S th cn m) = some (.fin ⟨3, V.nil, e⟩ cn (wipeM e m')) := by
  rw [gstep_run, h]
  rfl
/-- A call returns. -/
theorem returned (hK : Kok K) (Y : Vs K s m S cn ρ fi c t l F Tk W low ops) {t1 : Th} (h3 : ∀ a, a < low.length → t1.stack[a]? = t.stack[a]?) (h4 : t1.st = t.st ∧ t1.fn = t.fn) {q : Nat} (N : Now (c.pc q) (setTh m c.th t1) t1 q) (hg : c.g = K.g) (hp : c.PT = K.PT) (hOl : c.O = low.length) {x : Int} (hi : InsAt c q 27 x) {S0 : List V} {a b : V} (hs : t1.stack = S0 ++ [a] ++ [b]) {T : List TkM} {X : List V} (hT : ∃ T1, T = T1 ++ [(⟨3, if c.f.prot = true then 1 else 0, (F.h : Int), none⟩ : TkM)] ∧ ∀ q, q ∈ T1 → q.k ≠ 3) (hX : W <+: X) (hXl : X.length ≤ 900000) (hTl : (T ++ Tk).length ≤ 900000) :
    ∃ cfg s' w, rret a b (Go.Sm.ms s (T ++ Tk) X) = some s' ∧ gstep (.run S c.th cn (setTh m c.th t1)) = some cfg ∧ RR K w s' cfg := by
  have R := Y.R
  have hcur := Y.cur
  have hth := R.thg Y.ht
  have hdp := hth.dp
  rw [Y.hfi, List.length_append, List.length_singleton] at hdp
  have hbt := hth.bt
  rw [Y.hfr] at hbt
  have hlens := Y.trs.lens
  have hlo := Y.lo
  have hfr := Y.fr
  have hrr := hfr.r
  have hfb := hfr.b
  have hl8 : l.length < 8 := by
    have h5 := N.thr.fl
    have h6 : (c.pc q).fs = c.fs := rfl
    rw [h6] at h5
    omega
  obtain ⟨hO, hA, hB⟩ := N.xret hi hs
  have hO : c.O ≤ S0.length := hO
  obtain ⟨T1, rfl, hT1⟩ := hT
  have hthg : thG (Go.Sm.ms s (T1 ++ [(⟨3, if c.f.prot = true then 1 else 0, (F.h : Int), none⟩ : TkM)] ++ Tk) X) = { thG s with tasks := (T1 ++ [(⟨3, if c.f.prot = true then 1 else 0, (F.h : Int), none⟩ : TkM)] ++ Tk).reverse, vals := X } := ms_th hcur _ _
  have hXW : X.take F.h = W := by
    rw [Y.h]
    obtain ⟨z, rfl⟩ := hX
    exact List.take_left' rfl
  have hWl : F.h ≤ X.length := by rw [Y.h]; exact hX.length_le
  have hret : retP (T1 ++ [(⟨3, if c.f.prot = true then 1 else 0, (F.h : Int), none⟩ : TkM)] ++ Tk) = some (⟨3, if c.f.prot = true then 1 else 0, (F.h : Int), none⟩, Tk) := by
    rw [List.append_assoc, retP_skip _ _ hT1]
    rfl
  have hS0 : ∀ j, j < low.length → S0[j]? = t.stack[j]? := fun j hj => by
    rw [← h3 j hj, hs, List.append_assoc, List.getElem?_append_left (by omega)]
  have hs1 : ∀ a, Live (fi c.th) a → ({ t1 with stack := S0 } : Th).stack[a]? = t.stack[a]? := fun a ha => hS0 a (Y.liveLow ha)
  have hstart : rret a b (Go.Sm.ms s (T1 ++ [(⟨3, if c.f.prot = true then 1 else 0, (F.h : Int), none⟩ : TkM)] ++ Tk) X) =
      (if Tk = [] then rback true a (rset s { thG s with st := 5, depth := (l.length : Int), tasks := [], vals := W })
        else if (if c.f.prot = true then (1 : Int) else 0) = 1 then bind1 (rpush ⟨1, 1, []⟩ (rset s { thG s with depth := (l.length : Int), tasks := Tk.reverse, vals := W })) fun m2 => rpush a m2
        else bind1 (rpush a (rset s { thG s with depth := (l.length : Int), tasks := Tk.reverse, vals := W })) fun m2 => rpush b m2) := by
    unfold rret
    rw [if_neg (fun w => w ⟨ms_cur hcur _ _, by rw [hthg]; dsimp only; rw [List.length_reverse]; omega, by rw [hthg]; dsimp only; omega, by rw [hthg]; dsimp only; omega, by rw [hthg]; dsimp only; omega⟩)]
    rw [hthg]
    dsimp only
    rw [List.reverse_reverse, hret]
    dsimp only
    rw [if_neg (fun w => w ⟨by omega, by omega⟩), hdp, ms_set hcur, ms_set hcur, Int.toNat_natCast, hXW, show (((l.length + 1 : Nat) : Int)) - 1 = (l.length : Int) from by omega]
  by_cases h0 : c.fs = []
  · obtain ⟨o', cs, w1, w2, w3, w4⟩ := hA h0
    have e1 : (c.pc q).th = c.th := rfl
    rw [e1, setTh_c] at w1 w3 w4
    rw [e1] at w2
    have w3' := w3
    rw [show (c.pc q).g = K.g from hg, show (c.pc q).PT = K.PT from hp] at w3'
    have w2' : Clsd m c.th { t1 with stack := S0 } 0 cs := ⟨w2.len, w2.cls, w2.unq, w2.nn⟩
    have htr := Y.trs
    rw [h0] at htr
    obtain ⟨l0, tk0, W0, e0⟩ := htr.inv0
    have R' := R.closed (t' := { t1 with opn := o', st := 5, stack := [], frames := [] }) (q' := { thG s with st := 5, depth := (l.length : Int), tasks := [], vals := W }) (l' := []) Y.ht w2' hs1 (fun a ha hl => by omega) ⟨rfl, (fun q => by cases q), by dsimp only; rw [l0], (fun f' hf' => by simp at hf'), by dsimp only; rw [W0]; exact .nil⟩
    obtain ⟨cfg, s1, w, y1, y2, y3⟩ := back_dead hK R' w3' true w4
    refine ⟨cfg, s1, w, ?_, ?_, y3⟩
    · rw [hstart, if_pos tk0]
      exact y2
    · rw [gstep_ev w1 (by dsimp only; decide)]
      unfold gev
      dsimp only
      rw [if_neg (by decide), if_neg (by decide), if_pos rfl]
      exact y1
  · obtain ⟨o', cs, c', w1, w2, w3, w4, w5, w6⟩ := hB h0
    have e1 : (c.pc q).th = c.th := rfl
    have e2 : (c.pc q).f.ret = c.f.ret := rfl
    have e3 : (c.pc q).f.prot = c.f.prot := rfl
    have e4 : (c.pc q).fs = c.fs := rfl
    have e5 : (c.pc q).f.base = c.f.base := rfl
    rw [e1, setTh_c, e2, e3, e4] at w1 w6
    rw [e1, e5] at w2
    have w2' : Clsd m c.th { t1 with stack := S0 } c.f.base cs := ⟨w2.len, w2.cls, w2.unq, w2.nn⟩
    have htkne : Tk ≠ [] := fun e => by
      have htr := Y.trs
      obtain ⟨fs0, f0, hf0⟩ : ∃ fs0 f0, c.fs = fs0 ++ [f0] := ⟨_, _, (List.dropLast_concat_getLast h0).symm⟩
      rw [hf0] at htr
      obtain ⟨l', F', Tk', W', seg, _, e2, _, _, hF, _⟩ := htr.inv
      obtain ⟨T0, e3, _⟩ := hF.kt.len
      rw [e] at e2
      rw [e3] at e2
      simp at e2
    have hstk : S0.take c.f.ret.toNat = t.stack.take c.f.ret.toNat := by
      apply List.ext_getElem?
      intro j
      by_cases hj : j < c.f.ret.toNat
      · rw [List.getElem?_take_of_lt hj, List.getElem?_take_of_lt hj]
        exact hS0 j (by omega)
      · rw [List.getElem?_eq_none (by rw [List.length_take]; omega), List.getElem?_eq_none (by rw [List.length_take]; omega)]
    obtain ⟨x', y', hxy⟩ : ∃ x y, (if c.f.prot = true then [vb1, a] else [a, b]) = [x, y] := by
      by_cases hp : c.f.prot = true
      · exact ⟨vb1, a, if_pos hp⟩
      · exact ⟨a, b, if_neg hp⟩
    rw [hxy] at w1 w6
    have hb' : Bot c.fs := fun f' hf' => hbt f' (by rw [List.getElem?_append_left (lt_of hf')]; exact hf')
    have R' := R.popTo Y.ht (t1 := { t1 with stack := S0 }) Y.trs h0 hb' (at_ := c.f.base) (by omega) (by rw [Y.sk, List.length_append]; omega) (fun a ha hl => by
      rw [Y.hfi] at hl
      have := live_low (k := l.length) (B := F.B) (fun G hG => by rw [List.drop_left' rfl, List.mem_singleton] at hG; subst hG; exact Nat.le_refl _) (by omega) hl
      rw [List.take_left' rfl] at this
      exact this) hstk h4 Y.st4 w2' hs1 x' y' o'
    obtain ⟨l0, F0, hl0⟩ : ∃ l0 F0, l = l0 ++ [F0] := by
      have hne : l ≠ [] := fun q => by
        rw [q] at hlens
        exact h0 (List.length_eq_zero_iff.1 hlens.2.2.1)
      exact ⟨_, _, (List.dropLast_concat_getLast hne).symm⟩
    refine ⟨.run S c.th cn (setTh { m with vs := { m.vs with cells := cs } } c.th { t1 with opn := o', stack := S0.take c.f.ret.toNat ++ [x', y'], frames := c.fs }), rset s { thG s with depth := (c.fs.length : Int), tasks := Tk.reverse, vals := W ++ [x', y'] }, F0.w, ?_, gstep_ok w1, ?_⟩
    · rw [hstart, if_neg htkne]
      have hpush : ∀ x y : V, (bind1 (rpush x (rset s { thG s with depth := (l.length : Int), tasks := Tk.reverse, vals := W })) fun m2 => rpush y m2) = some (rset s { thG s with depth := (c.fs.length : Int), tasks := Tk.reverse, vals := W ++ [x, y] }) := fun x y => by
        have hWl2 : W.length ≤ 900000 := by have := Y.h; omega
        unfold rpush
        rw [if_pos ⟨curOk_rset hcur _, by rw [thG_rset hcur]; dsimp only; omega⟩, b1, rset_rset hcur, thG_rset hcur]
        rw [if_pos ⟨curOk_rset hcur _, by rw [thG_rset hcur]; dsimp only; rw [List.length_append, List.length_singleton]; omega⟩, rset_rset hcur, thG_rset hcur]
        dsimp only
        rw [List.append_assoc, hlens.2.2.1]
        rfl
      by_cases hp1 : c.f.prot = true
      · rw [if_pos hp1] at hxy
        injection hxy with y1 y2
        injection y2 with y2 _
        subst y1 y2
        rw [if_pos hp1, if_pos rfl]
        exact hpush vb1 a
      · rw [if_neg hp1] at hxy
        injection hxy with y1 y2
        injection y2 with y2 _
        subst y1 y2
        rw [if_neg hp1, if_neg (by decide)]
        exact hpush a b
    · have w5' : c'.th = c.th := w5
      rw [← w5'] at w6 R' ⊢
      exact .run (w3.trans hg) (w4.trans hp) w6 R' (by rw [fiUp_at]; exact hl0)
end
end Go.Sm
