/- Plain: the interpreter and the machine go on together: errors fly, calls return. -/
import Derived.Test.Qxb6500573aGreatDoorSimU
namespace Go.Sm
open Go Go.Sl Go.Wl Go.Nm Go.Proofs
set_option linter.unusedVariables false
theorem setTh_c (m : VM) (th : Nat) (t1 t' : Th) (cs : List Ce) : setTh { (setTh m th t1) with vs := { (setTh m th t1).vs with cells := cs } } th t' = setTh { m with vs := { m.vs with cells := cs } } th t' := by
  unfold setTh
  simp only [List.set_set]
theorem Bot.take {fs : List Fr} (h : Bot fs) (k : Nat) : Bot (fs.take k) := fun f hf => by
  have h1 := lt_of hf
  rw [List.length_take] at h1
  rw [List.getElem?_take_of_lt (by omega)] at hf
  exact h f hf
section
variable {K : Cn} {s : RnM} {m : VM} {th : Nat} {S : List Nat} {cn : Int} {ρ : Nat → Option Plc} {fi : Nat → List FI}
/-- Calls have ended: two values go to the one below. -/
theorem Rl.popTo (R : Rl K s m th S cn ρ fi) {t t1 : Th} (ht : m.vs.threads[th]? = some t) {frs : List Fr} {l' : List FI} {Tk' : List TkM} {W' : List V} {e : Nat} (trs : TRs K s.envs ρ m th t.stack 2 frs l' Tk' W' e) (hne : frs ≠ []) (hbt : Bot frs) {at_ : Int} (he : (e : Int) ≤ at_) (hel : e ≤ t.stack.length) (hlv : ∀ a : Nat, (a : Int) < at_ → Live (fi th) a → Live l' a) (hst : t1.stack.take e = t.stack.take e) (h4 : t1.st = t.st ∧ t1.fn = t.fn) (hst4 : t.st = 4) {cs : List Ce} (hC : Clsd m th t1 at_ cs) (hs1 : ∀ a, Live (fi th) a → t1.stack[a]? = t.stack[a]?) (x y : V) (o' : List Int) :
    Rl K (rset s { thG s with depth := (frs.length : Int), tasks := Tk'.reverse, vals := W' ++ [x, y] }) (setTh { m with vs := { m.vs with cells := cs } } th { t1 with opn := o', stack := t1.stack.take e ++ [x, y], frames := frs }) th S cn (rhoC ρ m th at_) (fiUp fi th l') := by
  have hth := R.thg ht
  have hlen := trs.lens
  have hl1 : (t1.stack.take e).length = e := by rw [hst, List.length_take]; omega
  have hc := Chg.close (ρ := ρ) (es := s.envs) (m' := setTh { m with vs := { m.vs with cells := cs } } th { t1 with opn := o', stack := t1.stack.take e ++ [x, y], frames := frs }) hC rfl rfl R.celOk
  refine R.closed ht hC hs1 (fun a ha hl => ⟨hlv a ha hl, ?_⟩) ⟨?_, ?_, ?_, hbt, ?_⟩
  · obtain ⟨G, hG, s', nm, y1, y2, y3⟩ := hlv a ha hl
    have := hlen.2.2.2 G hG
    have := lt_of y1
    dsimp only
    rw [List.getElem?_append_left (by omega), List.getElem?_take_of_lt (by omega), hs1 a hl]
  · dsimp only; rw [h4.1]; exact hth.st
  · dsimp only; rw [h4.1, h4.2]; exact hth.fn
  · dsimp only; rw [hlen.2.2.1]
  · dsimp only
    have h9 := TRs.pushed (trs.chg hc (fun _ _ h => h) fun a ha => .inr (by omega)) hne [x, y] hel rfl
    rw [← hst] at h9
    rw [List.reverse_reverse, List.length_append, hl1, show awOf t1.st = 0 from if_pos (by rw [h4.1, hst4])]
    exact h9
end
section
variable {c : Cx} {m : VM} {ty : Ty} {v : V}
theorem unwind_skip {th : Nat} {t1 : Th} (ht : m.vs.threads[th]? = some t1) : ∀ (n k : Nat), k ≤ n → n < t1.frames.length → (∀ (j : Nat) f', k < j → j ≤ n → t1.frames[j]? = some f' → f'.prot = false) → unwindL th v m n = unwindL th v m k
  | 0, k, hk, hn, hp => by rw [show k = 0 from by omega]
  | n + 1, k, hk, hn, hp => by
    by_cases e : k = n + 1
    · rw [e]
    · unfold unwindL
      have hf : getF m th (n + 1) = some t1.frames[n + 1] := by
        unfold getF getT
        rw [ht, bind1_some, List.getElem?_eq_getElem hn]
      rw [hf, bind1_some, if_neg (by rw [hp (n + 1) _ (by omega) (Nat.le_refl _) (List.getElem?_eq_getElem hn)]; decide)]
      have := unwind_skip ht n k (by omega) (by omega) (fun j f' h1 h2 h3 => hp j f' h1 (by omega) h3)
      rw [this]
      cases k <;> rfl
theorem unwind_hit (h : RunT c m ty) {t1 : Th} (ht : m.vs.threads[c.th]? = some t1) (hv : VVm m v) {k : Nat} {f : Fr} (hk : t1.frames[k + 1]? = some f) (hp : f.prot = true) : ∃ (o' : List Int) (cs : List Ce) (c' : Cx), unwindL c.th v m (k + 1) = some (ev0, false, setTh { m with vs := { m.vs with cells := cs } } c.th { t1 with opn := o', stack := t1.stack.take f.ret.toNat ++ [v1, v], frames := t1.frames.take (k + 1) }) ∧ Clsd m c.th t1 f.base cs ∧ c'.g = c.g ∧ c'.PT = c.PT ∧ c'.th = c.th ∧ Run c' (setTh { m with vs := { m.vs with cells := cs } } c.th { t1 with opn := o', stack := t1.stack.take f.ret.toNat ++ [v1, v], frames := t1.frames.take (k + 1) }) := by
  obtain ⟨t', ht', hR⟩ := h.run
  rw [ht] at ht'
  injection ht' with ht'
  subst ht'
  have hfr := hR.fr
  rw [hfr] at hk
  obtain ⟨o', cs, t', c', b1, b2, b3, b4, b5, b6, b7, b8, b9⟩ := h.back hk (x := v1) (y := v) (VV.bool false) hv
  rw [ht] at b1
  injection b1 with b1
  subst b1
  obtain ⟨o2, cs2, x1, x2⟩ := RunX.closeX h ht f.base
  rw [b2] at x1
  injection x1 with x1
  have ecs : cs = cs2 := congrArg (fun w : VM => w.vs.cells) x1
  subst ecs
  have ht0 : ({ m with vs := { m.vs with cells := cs } } : VM).vs.threads[c.th]? = some t1 := ht
  have hgf : getF m c.th (k + 1) = some f := by
    unfold getF getT
    rw [ht, bind1_some, hfr]
    exact hk
  have hgf2 : getF (setTh { m with vs := { m.vs with cells := cs } } c.th { t1 with opn := o' }) c.th (k + 1) = some f := by
    unfold getF getT
    rw [setTh_at ht0, bind1_some, hfr]
    exact hk
  have hkl := lt_of hk
  rw [← hfr] at hkl
  refine ⟨o', cs, c', ?_, x2, b5, b6, b7, by rw [hfr]; exact b9⟩
  unfold unwindL
  rw [hgf, bind1_some, if_pos hp, b2, bind1_some, hgf2, bind1_some]
  unfold getT
  rw [setTh_at ht0, bind1_some, if_pos ⟨b3.1, b3.2, by dsimp only; omega⟩, setTh_2]
  unfold pushM getT
  rw [setTh_at ht0, bind1_some]
  have hlt : (t1.stack.take f.ret.toNat).length + [v1, v].length ≤ 1000000 := by rw [List.length_take]; simp only [List.length_cons, List.length_nil]; omega
  rw [if_pos hlt, bind1_some, setTh_2]
theorem kill_x (h : RunT c m ty) {t1 : Th} (ht : m.vs.threads[c.th]? = some t1) : ∃ (o' : List Int) (cs : List Ce), killM c.th m = some (setTh { m with vs := { m.vs with cells := cs } } c.th { t1 with opn := o', st := 5, stack := [], frames := [] }) ∧ Clsd m c.th t1 0 cs ∧ MW c.g c.PT (setTh { m with vs := { m.vs with cells := cs } } c.th { t1 with opn := o', st := 5, stack := [], frames := [] }) ∧ ∀ v, VVm m v → VVm (setTh { m with vs := { m.vs with cells := cs } } c.th { t1 with opn := o', st := 5, stack := [], frames := [] }) v := by
  obtain ⟨o', cs, x1, x2⟩ := RunX.closeX h ht 0
  obtain ⟨m', k1, k2, k3⟩ := h.kill
  have ht0 : ({ m with vs := { m.vs with cells := cs } } : VM).vs.threads[c.th]? = some t1 := ht
  have e : killM c.th m = some (setTh { m with vs := { m.vs with cells := cs } } c.th { t1 with opn := o', st := 5, stack := [], frames := [] }) := by
    unfold killM
    rw [x1, bind1_some]
    unfold getT
    rw [setTh_at ht0, bind1_some, setTh_2]
  rw [k1] at e
  injection e with e
  subst e
  exact ⟨o', cs, k1, x2, k2, k3⟩
end
end Go.Sm
