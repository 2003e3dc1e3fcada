/- Splits, calls. -/
import Derived.Test.Qxb6500573aGreatDoorSlE
namespace Go.Sl
open Go

section
variable {P : Program} {n : Nat} {Q : Post} {D : Defs} {ρ : Env} {H : Hp} {ops : Array Oper} {ty : TypeId} {K : Kont} {d : Nat} {pos : String} {af : Array Edge} {g : Option (Nat × Bool)} {Hs : Hp}

/-- A test, decided on the spot. -/
theorem SPL_if {op : Op} {p : Prop} [Decidable p] {rest : List Oper} (hy : Yo P n op ty ρ H (.bool (decide p))) (hd : Nat.ble (d + 1) n = true)
    (k1 : p → SPL P n ops rest Q D ((d, .bool true) :: ρ) H) (k2 : ¬ p → SPL P n ops rest Q D ((d, .bool false) :: ρ) H) :
    SPL P n ops ({ dst := some d, op := op, type := ty, pos := pos, after := af, guard := none } :: rest) Q D ρ H := by
  by_cases hp : p
  · exact SPL_y (by simpa [hp] using hy) hd (k1 hp)
  · exact SPL_y (by simpa [hp] using hy) hd (k2 hp)
/-- The same, the other way first. -/
theorem SPL_ifn {op : Op} {p : Prop} [Decidable p] {rest : List Oper} (hy : Yo P n op ty ρ H (.bool (decide p))) (hd : Nat.ble (d + 1) n = true)
    (k2 : ¬ p → SPL P n ops rest Q D ((d, .bool false) :: ρ) H) (k1 : p → SPL P n ops rest Q D ((d, .bool true) :: ρ) H) :
    SPL P n ops ({ dst := some d, op := op, type := ty, pos := pos, after := af, guard := none } :: rest) Q D ρ H := SPL_if hy hd k1 k2
theorem SPL_b {op : Op} {b : Bool} {rest : List Oper} (hy : Yo P n op ty ρ H (.bool b)) (hd : Nat.ble (d + 1) n = true)
    (k1 : b = true → SPL P n ops rest Q D ((d, .bool true) :: ρ) H) (k2 : b = false → SPL P n ops rest Q D ((d, .bool false) :: ρ) H) :
    SPL P n ops ({ dst := some d, op := op, type := ty, pos := pos, after := af, guard := none } :: rest) Q D ρ H := by
  cases b
  · exact SPL_y hy hd (k2 rfl)
  · exact SPL_y hy hd (k1 rfl)
theorem SPL_bn {op : Op} {b : Bool} {rest : List Oper} (hy : Yo P n op ty ρ H (.bool b)) (hd : Nat.ble (d + 1) n = true)
    (k2 : b = false → SPL P n ops rest Q D ((d, .bool false) :: ρ) H) (k1 : b = true → SPL P n ops rest Q D ((d, .bool true) :: ρ) H) :
    SPL P n ops ({ dst := some d, op := op, type := ty, pos := pos, after := af, guard := none } :: rest) Q D ρ H := SPL_b hy hd k1 k2
/-- In a region that draws. -/
theorem SPO_if {i : Nat} {op : Op} {p : Prop} [Decidable p] {ord : List (Nat × Nat)} (hi : ops[i]? = some { dst := some d, op := op, type := ty, pos := pos, after := af, guard := none })
    (hy : Yo P n op ty ρ [] (.bool (decide p))) (hd : Nat.ble (d + 1) n = true) (k1 : p → SPO P n ops Q Hs ord D ((d, .bool true) :: ρ) H) (k2 : ¬ p → SPO P n ops Q Hs ord D ((d, .bool false) :: ρ) H) : SPO P n ops Q Hs ((i, 0) :: ord) D ρ H := by
  by_cases hp : p
  · exact SPO_p hi (by simpa [hp] using hy) hd (k1 hp)
  · exact SPO_p hi (by simpa [hp] using hy) hd (k2 hp)
theorem SPO_ifn {i : Nat} {op : Op} {p : Prop} [Decidable p] {ord : List (Nat × Nat)} (hi : ops[i]? = some { dst := some d, op := op, type := ty, pos := pos, after := af, guard := none })
    (hy : Yo P n op ty ρ [] (.bool (decide p))) (hd : Nat.ble (d + 1) n = true) (k2 : ¬ p → SPO P n ops Q Hs ord D ((d, .bool false) :: ρ) H) (k1 : p → SPO P n ops Q Hs ord D ((d, .bool true) :: ρ) H) : SPO P n ops Q Hs ((i, 0) :: ord) D ρ H := SPO_if hi hy hd k1 k2

/-- A call of a function of the program's own that returns. -/
theorem SP1_call {f : FuncId} {xs : List Operand} {args : List Value} {at_ : Array TypeId} {pre rest : Hp} {R : Value → Hp → Prop} (spec : Spec P f args pre (Ret R))
    (hc : ∀ as w, (callFunc f as).run P w = .ok (.enter f as) w) (ha : evs ρ xs = some args) (hn : Nat.ble (d + 1) n = true) (hp : Part H pre rest)
    (hr : ∀ v post H', R v post → H' = post ++ rest → K D ((d, v) :: ρ) H') :
    SP1 P n { dst := some d, op := .call { callee := .value (.func f), args := xs.toArray, argTypes := at_ }, type := ty, pos := pos, after := af, guard := g } Q K D ρ H :=
  SP1_enter spec rfl hn hp (fun a w hf => by
    have := hf.evs ha
    simp [execOp, resolve, Act.eval, Deferred.ofValue, invoke, this, hc]) (fun v post h => hr v post _ h rfl) (fun c post h => h.elim) (fun post h => h)
/-- A call that may panic. -/
theorem SP1_callp {f : FuncId} {xs : List Operand} {args : List Value} {at_ : Array TypeId} {pre rest : Hp} {R : Value → Hp → Prop} {S : List PanicEntry → Hp → Prop} (spec : Spec P f args pre (RetP R S))
    (hc : ∀ as w, (callFunc f as).run P w = .ok (.enter f as) w) (ha : evs ρ xs = some args) (hn : Nat.ble (d + 1) n = true) (hp : Part H pre rest)
    (hpc : ∀ c post H', S c post → H' = post ++ rest → Q (.panic c) D ρ H') (hr : ∀ v post H', R v post → H' = post ++ rest → K D ((d, v) :: ρ) H') :
    SP1 P n { dst := some d, op := .call { callee := .value (.func f), args := xs.toArray, argTypes := at_ }, type := ty, pos := pos, after := af, guard := g } Q K D ρ H :=
  SP1_enter spec rfl hn hp (fun a w hf => by
    have := hf.evs ha
    simp [execOp, resolve, Act.eval, Deferred.ofValue, invoke, this, hc]) (fun v post h => hr v post _ h rfl) (fun c post h => hpc c post _ h rfl) (fun post h => h)
/-- A call of a function value. -/
theorem SP1_callv {f : FuncId} {x : Operand} {xs : List Operand} {args first cap : List Value} {at_ : Array TypeId} {pre rest : Hp} {R : Value → Hp → Prop} (hx : ev ρ x = some (.func (.func f) first.toArray cap.toArray))
    (spec : Spec P f (first ++ args ++ cap) pre (Ret R))
    (hc : ∀ as w, (callFunc f as).run P w = .ok (.enter f as) w) (ha : evs ρ xs = some args) (hn : Nat.ble (d + 1) n = true) (hp : Part H pre rest)
    (hr : ∀ v post H', R v post → H' = post ++ rest → K D ((d, v) :: ρ) H') :
    SP1 P n { dst := some d, op := .call { callee := .value x, args := xs.toArray, argTypes := at_ }, type := ty, pos := pos, after := af, guard := g } Q K D ρ H :=
  SP1_enter spec rfl hn hp (fun a w hf => by
    have := hf.evs ha
    simp [execOp, resolve, hf.ev hx, Deferred.ofValue, invoke, this, hc]) (fun v post h => hr v post _ h rfl) (fun c post h => h.elim) (fun post h => h)

theorem blind_body {fn : Func} {R : Ending → Hp → Prop} : Blind (bodyP P fn R) := fun _ _ _ _ _ h => h
theorem blind_then {K : Kont} (h : Blind Q) : Blind (thenP K Q) := h
theorem blind_block {id : Nat} (h : Blind Q) : Blind (inBlockP id Q) := h
end
end Go.Sl
