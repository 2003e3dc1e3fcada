/- Deferred calls with arguments; contracts under a wider heap; appends that leave the old row. -/
import Derived.Test.Qxb6500573aGreatDoorSlT
import Derived.Test.Qxb6500573aGreatDoorSlM
namespace Go.Sl
open Go
set_option linter.unusedVariables false
section
variable {P : Program} {n : Nat} {Q : Post} {D : Defs} {ρ : Env} {H : Hp} {ops : Array Oper} {ty : TypeId} {K : Kont} {d : Nat} {pos : String} {af : Array Edge} {g : Option (Nat × Bool)} {Hs : Hp}
/-- A contract, and what else lies there. -/
theorem Spec_part {f : FuncId} {args : List Value} {pre rest : Hp} {R R' : Value → Hp → Prop} (h : Spec P f args pre (Ret R)) (hp : Part H pre rest) (hr : ∀ v post, R v post → ∃ H', R' v H' ∧ ∃ r, Part (post ++ rest) H' r) : Spec P f args H (Ret R') := by
  intro A F w ho
  refine Calls.mono (h A (rest.flatten ++ F) w (hp.own ho)) ?_
  rintro e w' ⟨post, hR, ho'⟩
  cases e with
  | returned v =>
    obtain ⟨H', h1, r, h2⟩ := hr v post hR
    exact ⟨H', h1, h2.drop (Part.back ho')⟩
  | panicked c => exact hR.elim
  | outgrown => exact hR.elim
/-- A body's walk: for a plain call and for a deferred one. -/
def SpecB (P : Program) (f : FuncId) (args : List Value) (H : Hp) (R : Value → Hp → Prop) : Prop :=
  ∃ fn c n, P.funcs[f]? = some fn ∧ fn.body = some c ∧ fn.ntmps = n ∧ Nat.ble args.length n = true ∧ SP P n c (bodyP P fn (Ret R)) [] (enterEnv 0 args) H
theorem Spec_enterB {f : FuncId} {fn : Func} {c : Code} {args : List Value} {R : Value → Hp → Prop} (hf : P.funcs[f]? = some fn) (hb : fn.body = some c) (hn : fn.ntmps = n) (hle : Nat.ble args.length n = true)
    (h : SP P n c (bodyP P fn (Ret R)) [] (enterEnv 0 args) H) : SpecB P f args H R := ⟨fn, c, n, hf, hb, hn, hle, h⟩
theorem SpecB.spec {f : FuncId} {args : List Value} {R : Value → Hp → Prop} (h : SpecB P f args H R) : Spec P f args H (Ret R) := by
  obtain ⟨fn, c, n, hf, hb, hn, hle, h⟩ := h
  exact Spec_enter hf hb hn hle h
theorem SpecB.specD {f : FuncId} {args : List Value} {R : Value → Hp → Prop} {u : FrameMode} (h : SpecB P f args H R) : SpecD P f args u H fun e u' H' => ∃ v, e = .returned v ∧ u' = u ∧ R v H' := by
  obtain ⟨fn, c, n, hf, hb, hn, hle, h⟩ := h
  intro A F w ho
  have hle' : args.length ≤ n := Nat.le_of_ble_eq_true hle
  refine CallsD.mono (callsD_of_wp (R := fun e w' => ∃ H', Ret R e H' ∧ Own A w' (H'.flatten ++ F)) hf hb (wp_mono (h A F _ w ⟨?_, rfl, ?_⟩ ho) ?_)) ?_
  · simp [hn]; omega
  · intro i v hv
    obtain ⟨_, h2⟩ := look_enterEnv args 0 i v hv
    simp only [Nat.sub_zero] at h2
    have hlt := (List.getElem?_eq_some_iff.1 h2).1
    rw [Array.getElem?_append_left (by simpa using hlt)]
    simpa using h2
  · intro e a w' ⟨ρ, H, h1, h2, h3⟩
    have hs : ∀ {H' rest : Hp}, Part H H' rest → Own A w' (H'.flatten ++ F) := fun hp => hp.drop h2
    cases e with
    | normal => obtain ⟨hd, v, H', rest, hr, hp, hR⟩ := h3; exact ⟨hd, v, hr n _ a A _ w' h1 h2 (fun p hp => List.mem_append_left _ hp), H', hR, hs hp⟩
    | ret => obtain ⟨hd, v, H', rest, hr, hp, hR⟩ := h3; exact ⟨hd, v, hr n _ a A _ w' h1 h2 (fun p hp => List.mem_append_left _ hp), H', hR, hs hp⟩
    | panic c => obtain ⟨hd, H', rest, hp, hR⟩ := h3; exact hR.elim
    | exit id => exact h3.elim
    | goto l => exact h3.elim
    | outgrown => exact h3.elim
  · rintro e u' w' ⟨rfl, H', hR, ho'⟩
    cases e with
    | returned v => exact ⟨H', ⟨v, rfl, rfl, hR⟩, ho'⟩
    | panicked c => exact hR.elim
    | outgrown => exact hR.elim
/-- A body that ends with one deferred call of a function of the program's own that returns, with these arguments. -/
def lastA (P : Program) (fn : Func) (R : Value → Hp → Prop) : Defs → Env → Hp → Prop
  | [d], ρ, H => ∃ f args pre rest RD, d = { target := .fn (.func f) #[], args := List.toArray args } ∧ (∀ as w, (callFunc f as).run P w = .ok (.enter f as) w) ∧ Part H pre rest ∧ SpecB P f args pre RD ∧
      ∀ v0 post, RD v0 post → ∃ v H' rest', Res P fn ρ (post ++ rest) v ∧ Part (post ++ rest) H' rest' ∧ R v H'
  | _, _, _ => False
def bodyPA (P : Program) (fn : Func) (R : Value → Hp → Prop) : Post
  | .normal, D, ρ, H | .ret, D, ρ, H => lastA P fn R D ρ H
  | _, _, _, _ => False
theorem lastA_leaves {fn : Func} {R : Value → Hp → Prop} {A : World} {F : Seg} {a : Act} {w : World} (h1 : Fits n a.defers ρ a) (h2 : Own A w (H.flatten ++ F)) (h3 : lastA P fn R a.defers ρ H) :
    Leaves P fn a.tmps (fun e w' => ∃ H', Ret R e H' ∧ Own A w' (H'.flatten ++ F)) a.defers .returning w := by
  match hd : a.defers, h3 with
  | [d], h3 =>
    obtain ⟨f, args, pre, rest, RD, rfl, hc, hp, hs, hk⟩ := h3
    refine leaves_cons (by simp) (f := f) (args := args.toArray) (by simp [invoke, hc]) ?_
    refine CallsD.mono (hs.specD A (rest.flatten ++ F) w (hp.own h2)) ?_
    rintro e u' w' ⟨post, ⟨v0, rfl, rfl, hRD⟩, ho⟩
    obtain ⟨v, H', rest', hr, hp', hR⟩ := hk v0 post hRD
    have ho' : Own A w' ((post ++ rest).flatten ++ F) := Part.back ho
    show Leaves P fn a.tmps _ [] (settle .returning) w'
    exact ⟨v, hr n _ a A _ w' h1 ho' (fun p hp => List.mem_append_left _ hp), H', hR, hp'.drop ho'⟩
theorem Spec_enterA {f : FuncId} {fn : Func} {c : Code} {args : List Value} {R : Value → Hp → Prop} (hf : P.funcs[f]? = some fn) (hb : fn.body = some c) (hn : fn.ntmps = n) (hle : Nat.ble args.length n = true)
    (h : SP P n c (bodyPA P fn R) [] (enterEnv 0 args) H) : Spec P f args H (Ret R) := by
  intro A F w ho
  have hle' : args.length ≤ n := Nat.le_of_ble_eq_true hle
  refine calls_of_wp_defers hf hb (wp_mono (h A F _ w ⟨?_, rfl, ?_⟩ ho) ?_)
  · simp [hn]; omega
  · intro i v hv
    obtain ⟨_, h2⟩ := look_enterEnv args 0 i v hv
    simp only [Nat.sub_zero] at h2
    have hlt := (List.getElem?_eq_some_iff.1 h2).1
    rw [Array.getElem?_append_left (by simpa using hlt)]
    simpa using h2
  · intro e a w' ⟨ρ, H, h1, h2, h3⟩
    cases e with
    | normal => exact lastA_leaves h1 h2 h3
    | ret => exact lastA_leaves h1 h2 h3
    | panic c => exact h3.elim
    | exit id => exact h3.elim
    | goto l => exact h3.elim
    | outgrown => exact h3.elim
theorem bodyPA_end {fn : Func} {R RD : Value → Hp → Prop} {f : FuncId} {args : List Value} {pre rest : Hp} (hs : SpecB P f args pre RD) (hc : ∀ as w, (callFunc f as).run P w = .ok (.enter f as) w) (hp : Part H pre rest)
    (hk : ∀ v0 post H1, RD v0 post → H1 = post ++ rest → ∃ v H' rest', Res P fn ρ H1 v ∧ Part H1 H' rest' ∧ R v H') : bodyPA P fn R .normal [{ target := .fn (.func f) #[], args := List.toArray args }] ρ H :=
  ⟨f, args, pre, rest, RD, rfl, hc, hp, hs, fun v0 post h => hk v0 post _ h rfl⟩
/-- 'defer f(..)' of a function of the program's own. -/
theorem SP1_deferA {f : FuncId} {xs : List Operand} {args : List Value} {at_ : Array TypeId} (ha : evs ρ xs = some args) (k : K ({ target := .fn (.func f) #[], args := List.toArray args } :: D) ρ H) :
    SP1 P n { dst := none, op := .defer { callee := .value (.func f), args := xs.toArray, argTypes := at_ }, type := ty, pos := pos, after := af, guard := g } Q K D ρ H := fun A F a w hf ho => by
  have hrun : (execOp a.eval { dst := none, op := .defer { callee := .value (.func f), args := xs.toArray, argTypes := at_ }, type := ty, pos := pos, after := af, guard := g }).run P w = .ok (.defer { target := .fn (.func f) #[], args := List.toArray args }) w := by
    have := hf.evs ha
    simp [execOp, resolve, Act.eval, Deferred.ofValue, this]
  unfold Oper.wp
  rw [hrun]
  refine ⟨ρ, H, ?_, ho, ?_⟩
  · exact ⟨hf.size, rfl, hf.get⟩
  · show K (_ :: a.defers) ρ H
    rw [hf.defers]; exact k
end
end Go.Sl
