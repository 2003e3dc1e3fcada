/- Deferred calls and recover. -/
import Derived.Test.Qxb6500573aGreatDoorSlS
import Derived.Recover
namespace Go.Sl
open Go
set_option linter.unusedVariables false

section
variable {P : Program} {n : Nat} {Q : Post} {D : Defs} {ρ : Env} {H : Hp} {ops : Array Oper} {ty : TypeId} {K : Kont} {d : Nat} {pos : String} {af : Array Edge} {g : Option (Nat × Bool)} {Hs : Hp}

/-- A deferred function's contract: 'u': how the frame below is leaving. -/
def SpecD (P : Program) (f : FuncId) (args : List Value) (u : FrameMode) (H : Hp) (R : Ending → FrameMode → Hp → Prop) : Prop :=
  ∀ A F w, Own A w (List.flatten H ++ F) → CallsD P f args.toArray u w fun e u' w' => ∃ H', R e u' H' ∧ Own A w' (List.flatten H' ++ F)

/-- How a body ends whose frame may hold one deferred call of a function of the program's own, which returns. -/
def lastP (P : Program) (fn : Func) (R : Ending → Hp → Prop) (u : FrameMode) : Defs → Env → Hp → Prop
  | [], ρ, H => match u with
    | .returning => ∃ v H' rest, Res P fn ρ H v ∧ Part H H' rest ∧ R (.returned v) H'
    | .panicking c => ∃ H' rest, Part H H' rest ∧ R (.panicked c) H'
    | .run => False
  | [d], ρ, H => ∃ f cap pre rest, d = { target := .fn (.func f) cap, args := #[] } ∧ (∀ w, (callFunc f cap).run P w = .ok (.enter f cap) w) ∧ Part H pre rest ∧
      SpecD P f cap.toList u pre fun e u' post => ∃ v0, e = .returned v0 ∧ settle u' = .returning ∧ ∃ v H' rest', Res P fn ρ (post ++ rest) v ∧ Part (post ++ rest) H' rest' ∧ R (.returned v) H'
  | _, _, _ => False
def bodyPD (P : Program) (fn : Func) (R : Ending → Hp → Prop) : Post
  | .normal, D, ρ, H | .ret, D, ρ, H => lastP P fn R .returning D ρ H
  | .panic c, D, ρ, H => lastP P fn R (.panicking c) D ρ H
  | _, _, _, _ => False
theorem lastP_leaves {fn : Func} {R : Ending → Hp → Prop} {u : FrameMode} {A : World} {F : Seg} {a : Act} {w : World} (hu : u ≠ .run) (h1 : Fits n a.defers ρ a) (h2 : Own A w (H.flatten ++ F)) (h3 : lastP P fn R u a.defers ρ H) :
    Leaves P fn a.tmps (fun e w' => ∃ H', R e H' ∧ Own A w' (H'.flatten ++ F)) a.defers u w := by
  match hd : a.defers, h3 with
  | [], h3 =>
    cases u with
    | run => exact absurd rfl hu
    | returning =>
      obtain ⟨v, H', rest, hr, hp, hR⟩ := h3
      exact ⟨v, hr n _ a A _ w h1 h2 (fun p hp => List.mem_append_left _ hp), H', hR, hp.drop h2⟩
    | panicking c =>
      obtain ⟨H', rest, hp, hR⟩ := h3
      exact ⟨H', hR, hp.drop h2⟩
  | [d], h3 =>
    obtain ⟨f, cap, pre, rest, rfl, hc, hp, hs⟩ := h3
    refine leaves_cons hu (f := f) (args := cap) (by simp [invoke, hc]) ?_
    have := hs A (rest.flatten ++ F) w (hp.own h2)
    refine CallsD.mono this ?_
    rintro e u' w' ⟨post, ⟨v0, rfl, hset, v, H', rest', hr, hp', hR⟩, ho⟩
    have ho' : Own A w' ((post ++ rest).flatten ++ F) := Part.back ho
    show Leaves P fn a.tmps _ [] (settle u') w'
    rw [hset]
    exact ⟨v, hr n _ a A _ w' h1 ho' (fun p hp => List.mem_append_left _ hp), H', hR, hp'.drop ho'⟩
theorem Spec_enterD {f : FuncId} {fn : Func} {c : Code} {args : List Value} {R : Ending → Hp → Prop} (hf : P.funcs[f]? = some fn) (hb : fn.body = some c) (hn : fn.ntmps = n) (hle : Nat.ble args.length n = true)
    (h : SP P n c (bodyPD P fn R) [] (enterEnv 0 args) H) : Spec P f args H R := by
  intro A F w ho
  have hle' : args.length ≤ n := Nat.le_of_ble_eq_true hle
  refine calls_of_wp_defers hf hb (wp_mono (h A F _ w ⟨?_, rfl, ?_⟩ ho) ?_)
  · simp [hn]; omega
  · intro i v hv
    obtain ⟨_, h2⟩ := look_enterEnv args 0 i v hv
    simp only [Nat.sub_zero] at h2
    have hlt := (List.getElem?_eq_some_iff.1 h2).1
    rw [Array.getElem?_append_left (by simpa using hlt)]
    simpa using h2
  · intro e a w' ⟨ρ, H, h1, h2, h3⟩
    cases e with
    | normal => exact lastP_leaves (by simp) h1 h2 h3
    | ret => exact lastP_leaves (by simp) h1 h2 h3
    | panic c => exact lastP_leaves (by simp) h1 h2 h3
    | exit id => exact h3.elim
    | goto l => exact h3.elim
    | outgrown => exact h3.elim
theorem bodyPD_ret {fn : Func} {R : Ending → Hp → Prop} {v : Value} {H' rest : Hp} (hr : Res P fn ρ H v) (hp : Part H H' rest) (h : R (.returned v) H') : bodyPD P fn R .ret [] ρ H := ⟨v, H', rest, hr, hp, h⟩
theorem bodyPD_ret1 {fn : Func} {R : Ending → Hp → Prop} {f : FuncId} {cap : Array Value} {v : Value} {pre rest post H' rest' : Hp} (hc : ∀ as w, (callFunc f as).run P w = .ok (.enter f as) w) (hp : Part H pre rest)
    (hs : SpecD P f cap.toList .returning pre fun e u' H => ∃ v0, e = .returned v0 ∧ settle u' = .returning ∧ H = post) (hr : Res P fn ρ (post ++ rest) v) (hp' : Part (post ++ rest) H' rest') (h : R (.returned v) H') :
    bodyPD P fn R .ret [{ target := .fn (.func f) cap, args := #[] }] ρ H :=
  ⟨f, cap, pre, rest, rfl, fun w => hc _ w, hp, fun A F w ho => (hs A F w ho).mono fun e u' w' ⟨_, ⟨v0, h1, h2, h3⟩, ho'⟩ => by subst h3; exact ⟨_, ⟨v0, h1, h2, v, H', rest', hr, hp', h⟩, ho'⟩⟩
theorem bodyPD_panic1 {fn : Func} {R : Ending → Hp → Prop} {f : FuncId} {cap : Array Value} {c : List PanicEntry} {v : Value} {pre rest post H' rest' : Hp} (hc : ∀ as w, (callFunc f as).run P w = .ok (.enter f as) w) (hp : Part H pre rest)
    (hs : SpecD P f cap.toList (.panicking c) pre fun e u' H => ∃ v0, e = .returned v0 ∧ settle u' = .returning ∧ H = post) (hr : Res P fn ρ (post ++ rest) v) (hp' : Part (post ++ rest) H' rest') (h : R (.returned v) H') :
    bodyPD P fn R (.panic c) [{ target := .fn (.func f) cap, args := #[] }] ρ H :=
  ⟨f, cap, pre, rest, rfl, fun w => hc _ w, hp, fun A F w ho => (hs A F w ho).mono fun e u' w' ⟨_, ⟨v0, h1, h2, h3⟩, ho'⟩ => by subst h3; exact ⟨_, ⟨v0, h1, h2, v, H', rest', hr, hp', h⟩, ho'⟩⟩
theorem SpecD.frame {f : FuncId} {args : List Value} {u : FrameMode} {pre post : Hp} (extra : Hp) (h : SpecD P f args u pre fun e u' H => ∃ v0, e = .returned v0 ∧ settle u' = .returning ∧ H = post) {pre' : Hp} (hp : pre'.flatten = (pre ++ extra).flatten) :
    SpecD P f args u pre' fun e u' H => ∃ v0, e = .returned v0 ∧ settle u' = .returning ∧ H = post ++ extra := fun A F w ho =>
  (h A (extra.flatten ++ F) w (by rw [hp] at ho; simpa using ho)).mono fun e u' w' ⟨_, ⟨v0, h1, h2, h3⟩, ho'⟩ => by
    subst h3; exact ⟨_, ⟨v0, h1, h2, rfl⟩, by simpa using ho'⟩
def noPanicP (Q : Post) : Post
  | .panic _, _, _, _ => False
  | e, D, ρ, H => Q e D ρ H
theorem noPanicP_n (h : Q .normal D ρ H) : noPanicP Q .normal D ρ H := h
theorem SP_noPanic {c : Code} (h : SP P n c (noPanicP Q) D ρ H) : SP P n c Q D ρ H :=
  fun A F a w hf ho => wp_mono (h A F a w hf ho) fun e a w hq => by
    obtain ⟨ρ, H, h1, h2, h3⟩ := hq
    cases e with
    | panic c => exact h3.elim
    | _ => exact ⟨ρ, H, h1, h2, h3⟩
/-- Three results in cells of their own. -/
theorem Res3C {fn : Func} {t u s : Nat} {T U S : TypeId} {b c e : Nat} {v x y : Value} (h : fn.results = #[.cell t T, .cell u U, .cell s S]) (hv : look ρ t = some (.pointer (some ⟨b, 0, none⟩))) (hx : look ρ u = some (.pointer (some ⟨c, 0, none⟩))) (hy : look ρ s = some (.pointer (some ⟨e, 0, none⟩)))
    (hT : ∀ w, (isAgg T).run P w = .ok false w) (hU : ∀ w, (isAgg U).run P w = .ok false w) (hS : ∀ w, (isAgg S).run P w = .ok false w) (c1 : Cell H b 0 v) (c2 : Cell H c 0 x) (c3 : Cell H e 0 y) : Res P fn ρ H (.tuple #[v, x, y]) :=
  fun _ _ a _ _ w hf ho hs => by
    have h1 := hf.getD hv
    have h2 := hf.getD hx
    have h3 := hf.getD hy
    have e1 := c1.at ho hs
    have e2 := c2.at ho hs
    have e3 := c3.at ho hs
    simp only [Array.getD_eq_getD_getElem?] at h1 h2 h3
    simp [results, h, h1, h2, h3, asAddr, loadVar, hT, hU, hS, e1, e2, e3]
/-- 'defer f()' for a closure. -/
theorem SP1_defer {x : Operand} {f : FuncId} {cap : Array Value} {at_ : Array TypeId} (hx : ev ρ x = some (.func (.func f) #[] cap)) (k : K ({ target := .fn (.func f) cap, args := #[] } :: D) ρ H) :
    SP1 P n { dst := none, op := .defer { callee := .value x, args := #[], argTypes := at_ }, type := ty, pos := pos, after := af, guard := g } Q K D ρ H := fun A F a w hf ho => by
  have hrun : (execOp a.eval { dst := none, op := .defer { callee := .value x, args := #[], argTypes := at_ }, type := ty, pos := pos, after := af, guard := g }).run P w = .ok (.defer { target := .fn (.func f) cap, args := #[] }) w := by
    simp [execOp, resolve, hf.ev hx, Deferred.ofValue]
  unfold Oper.wp
  rw [hrun]
  refine ⟨ρ, H, ?_, ho, ?_⟩
  · exact ⟨hf.size, rfl, hf.get⟩
  · show K (_ :: a.defers) ρ H
    rw [hf.defers]; exact k
/-! A deferred function's own walk: the frames below it stand in the judgement. -/
abbrev PostS := Exit → Defs → Env → Hp → List Frame → Prop
def SPS (P : Program) (n : Nat) (c : Code) (Q : PostS) (D : Defs) (ρ : Env) (H : Hp) (cs : List Frame) : Prop :=
  ∀ A F a w, Fits n D ρ a → Own A w (List.flatten H ++ F) → c.wpS P (fun e a w_ w' => ∃ ρ H, Fits n a.defers ρ a ∧ Own A w' (List.flatten H ++ F) ∧ Q e a.defers ρ H w_) a cs w
def thenPS (K : Defs → Env → Hp → List Frame → Prop) (Q : PostS) : PostS
  | .normal, D, ρ, H, cs => K D ρ H cs
  | e, D, ρ, H, cs => Q e D ρ H cs
theorem wpS_mono {c : Code} {R R' : Exit → Act → List Frame → World → Prop} {a : Act} {cs : List Frame} {w : World} (h : c.wpS P R a cs w) (hr : ∀ e a cs w, R e a cs w → R' e a cs w) : c.wpS P R' a cs w :=
  fun b k hb hro => let ⟨e, a', cs', w', q, r⟩ := h b k hb hro; ⟨e, a', cs', w', hr _ _ _ _ q, r⟩
theorem SPS_seq {x y : Code} {Q : PostS} {cs : List Frame} (h : SPS P n x (thenPS (fun D ρ H cs => SPS P n y Q D ρ H cs) Q) D ρ H cs) : SPS P n (.seq x y) Q D ρ H cs :=
  fun A F a w hf ho => wpS_seq (wpS_mono (h A F a w hf ho) fun e a cs w hq => by
    obtain ⟨ρ, H, h1, h2, h3⟩ := hq
    cases e with
    | normal => exact h3 A F a w h1 h2
    | _ => exact ⟨ρ, H, h1, h2, h3⟩)
theorem SPS_of {c : Code} {Q : PostS} {cs : List Frame} (h : SP P n c (fun e D ρ H => Q e D ρ H cs) D ρ H) : SPS P n c Q D ρ H cs :=
  fun A F a w hf ho => wpS_of_wp (wp_mono (h A F a w hf ho) fun e a w hq => hq)
theorem thenPS_n {K : Defs → Env → Hp → List Frame → Prop} {Q : PostS} {cs : List Frame} (h : K D ρ H cs) : (fun e D ρ H => thenPS K Q e D ρ H cs) .normal D ρ H := h
theorem SPS_recover {id t : Nat} {ps : String} {Q : PostS} {cs cs' : List Frame} {v : Value} (hn : Nat.ble (t + 1) n = true) (hr : recoverD cs = some (v, cs')) (k : Q .normal D ((t, v) :: ρ) H cs') :
    SPS P n (.region id #[{ dst := some t, op := .call { callee := .builtin .recover, args := #[], argTypes := #[] }, type := ty, pos := ps, after := #[], guard := none }] false) Q D ρ H cs := fun A F a w hf ho => by
  refine wpS_region ?_
  have h1 : ∀ w : World, (execOp a.eval { dst := some t, op := .call { callee := .builtin .recover, args := #[], argTypes := #[] }, type := ty, pos := ps, after := #[], guard := none }).run P w = .ok .recover w := fun w => by
    simp [execOp, resolve, invoke, builtin]
  simp [wpOpsS, List.range_succ, Region.wanted, h1, hr]
  exact ⟨_, by rw [show (a.put (some t) v).defers = D from hf.defers]; exact hf.put hn v, H, ho, by rw [show (a.put (some t) v).defers = D from hf.defers]; exact k⟩
theorem SPS_recoverN {id t : Nat} {ps : String} {Q : PostS} {cs : List Frame} (hn : Nat.ble (t + 1) n = true) (hr : recoverD cs = none) (k : Q .normal D ((t, .nilIface) :: ρ) H cs) :
    SPS P n (.region id #[{ dst := some t, op := .call { callee := .builtin .recover, args := #[], argTypes := #[] }, type := ty, pos := ps, after := #[], guard := none }] false) Q D ρ H cs := fun A F a w hf ho => by
  refine wpS_region ?_
  have h1 : ∀ w : World, (execOp a.eval { dst := some t, op := .call { callee := .builtin .recover, args := #[], argTypes := #[] }, type := ty, pos := ps, after := #[], guard := none }).run P w = .ok .recover w := fun w => by
    simp [execOp, resolve, invoke, builtin]
  simp [wpOpsS, List.range_succ, Region.wanted, h1, hr]
  exact ⟨_, by rw [show (a.put (some t) Value.nilIface).defers = D from hf.defers]; exact hf.put hn _, H, ho, by rw [show (a.put (some t) Value.nilIface).defers = D from hf.defers]; exact k⟩
def bodyPS (P : Program) (fn : Func) (c₀ : Frame) (cs : List Frame) (R : Ending → FrameMode → Hp → Prop) : PostS
  | .normal, D, ρ, H, cs' | .ret, D, ρ, H, cs' => D = [] ∧ ∃ u', cs' = { c₀ with mode := u' } :: cs ∧ ∃ v H' rest, Res P fn ρ H v ∧ Part H H' rest ∧ R (.returned v) u' H'
  | _, _, _, _, _ => False
theorem bodyPS_end {fn : Func} {c₀ : Frame} {cs cs' : List Frame} {R : Ending → FrameMode → Hp → Prop} {u' : FrameMode} {v : Value} {H' rest : Hp} (hc : cs' = { c₀ with mode := u' } :: cs) (hr : Res P fn ρ H v) (hp : Part H H' rest) (h : R (.returned v) u' H') :
    (fun e D ρ H => bodyPS P fn c₀ cs R e D ρ H cs') .normal [] ρ H := ⟨rfl, u', hc, v, H', rest, hr, hp, h⟩
theorem SpecD_enter {f : FuncId} {fn : Func} {c : Code} {args : List Value} {u : FrameMode} {R : Ending → FrameMode → Hp → Prop} (hf : P.funcs[f]? = some fn) (hb : fn.body = some c) (hn : fn.ntmps = n) (hle : Nat.ble args.length n = true)
    (h : ∀ (c₀ : Frame) (cs : List Frame), c₀.mode = u → SPS P n c (bodyPS P fn c₀ cs R) [] (enterEnv 0 args) H (c₀ :: cs)) : SpecD P f args u H R := by
  intro A F w ho
  have hle' : args.length ≤ n := Nat.le_of_ble_eq_true hle
  refine callsD_of_wpS hf hb (fun c₀ cs hu => wpS_mono (h c₀ cs hu A F _ w ⟨?_, rfl, ?_⟩ ho) ?_)
  · simp [hn]; omega
  · intro i v hv
    obtain ⟨_, h2⟩ := look_enterEnv args 0 i v hv
    simp only [Nat.sub_zero] at h2
    have hlt := (List.getElem?_eq_some_iff.1 h2).1
    rw [Array.getElem?_append_left (by simpa using hlt)]
    simpa using h2
  · rintro e a cs' w' ⟨ρ, H, h1, h2, h3⟩
    cases e with
    | normal =>
      obtain ⟨hd, u', hc, v, H', rest, hr, hp, hR⟩ := h3
      exact ⟨hd, u', hc, v, hr n _ a A _ w' h1 h2 (fun p hp => List.mem_append_left _ hp), H', hR, hp.drop h2⟩
    | ret =>
      obtain ⟨hd, u', hc, v, H', rest, hr, hp, hR⟩ := h3
      exact ⟨hd, u', hc, v, hr n _ a A _ w' h1 h2 (fun p hp => List.mem_append_left _ hp), H', hR, hp.drop h2⟩
    | panic c => exact h3.elim
    | exit id => exact h3.elim
    | goto l => exact h3.elim
    | outgrown => exact h3.elim
end
end Go.Sl
