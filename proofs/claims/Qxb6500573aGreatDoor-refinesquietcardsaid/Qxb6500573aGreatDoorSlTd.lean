/- A deferred function that recovers, with any heap behind it. -/
import Derived.Test.Qxb6500573aGreatDoorSlDf
namespace Go.Sl
open Go
section
variable {P : Program} {n : Nat} {ρ : Env} {H : Hp}
theorem bodyPD_retS {fn : Func} {R : Ending → Hp → Prop} {f : FuncId} {cap : Array Value} {pre rest : Hp} {S : Hp → Prop} (hc : ∀ as w, (callFunc f as).run P w = .ok (.enter f as) w) (hp : Part H pre rest)
    (hs : SpecD P f cap.toList .returning pre fun e u' H => ∃ v0, e = .returned v0 ∧ settle u' = .returning ∧ S H) (k : ∀ post, S post → ∃ v H' rest', Res P fn ρ (post ++ rest) v ∧ Part (post ++ rest) H' rest' ∧ R (.returned v) H') :
    bodyPD P fn R .ret [{ target := .fn (.func f) cap, args := #[] }] ρ H :=
  ⟨f, cap, pre, rest, rfl, fun w => hc _ w, hp, fun A F w ho => (hs A F w ho).mono fun e u' w' ⟨post, ⟨v0, h1, h2, h3⟩, ho'⟩ => by
    obtain ⟨v, H', rest', hr, hp', h⟩ := k post h3
    exact ⟨post, ⟨v0, h1, h2, v, H', rest', hr, hp', h⟩, ho'⟩⟩
theorem bodyPD_panicS {fn : Func} {R : Ending → Hp → Prop} {f : FuncId} {cap : Array Value} {c : List PanicEntry} {pre rest : Hp} {S : Hp → Prop} (hc : ∀ as w, (callFunc f as).run P w = .ok (.enter f as) w) (hp : Part H pre rest)
    (hs : SpecD P f cap.toList (.panicking c) pre fun e u' H => ∃ v0, e = .returned v0 ∧ settle u' = .returning ∧ S H) (k : ∀ post, S post → ∃ v H' rest', Res P fn ρ (post ++ rest) v ∧ Part (post ++ rest) H' rest' ∧ R (.returned v) H') :
    bodyPD P fn R (.panic c) [{ target := .fn (.func f) cap, args := #[] }] ρ H :=
  ⟨f, cap, pre, rest, rfl, fun w => hc _ w, hp, fun A F w ho => (hs A F w ho).mono fun e u' w' ⟨post, ⟨v0, h1, h2, h3⟩, ho'⟩ => by
    obtain ⟨v, H', rest', hr, hp', h⟩ := k post h3
    exact ⟨post, ⟨v0, h1, h2, v, H', rest', hr, hp', h⟩, ho'⟩⟩
end
end Go.Sl
