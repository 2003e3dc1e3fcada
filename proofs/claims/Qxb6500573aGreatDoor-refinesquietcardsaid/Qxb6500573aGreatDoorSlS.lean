/- Scopes without jumps, guarded tests in regions that draw, rows of two. -/
import Derived.Test.Qxb6500573aGreatDoorSlR
import Derived.Scope
namespace Go.Sl
open Go
set_option linter.unusedVariables false

section
variable {P : Program} {n : Nat} {Q : Post} {D : Defs} {ρ : Env} {H : Hp} {ops : Array Oper} {ty : TypeId} {K : Kont} {d : Nat} {pos : String} {af : Array Edge} {g : Option (Nat × Bool)} {Hs : Hp}

def noGotoP (Q : Post) : Post
  | .goto _, _, _, _ => False
  | e, D, ρ, H => Q e D ρ H
theorem noGotoP_n (h : Q .normal D ρ H) : noGotoP Q .normal D ρ H := h
theorem noGotoP_ret (h : Q .ret D ρ H) : noGotoP Q .ret D ρ H := h
theorem noGotoP_exit {id : Nat} (h : Q (.exit id) D ρ H) : noGotoP Q (.exit id) D ρ H := h
theorem noGotoP_panic {c : List PanicEntry} (h : Q (.panic c) D ρ H) : noGotoP Q (.panic c) D ρ H := h
theorem SP_scope {c : Code} (h : SP P n c (noGotoP Q) D ρ H) : SP P n (.scope c) Q D ρ H :=
  fun A F a w hf ho => wp_scope_straight (wp_mono (h A F a w hf ho) fun e a w hq => by
    obtain ⟨ρ, H, h1, h2, h3⟩ := hq
    cases e with
    | goto l => exact h3.elim
    | _ => exact ⟨ρ, H, h1, h2, h3⟩)
theorem SP_label {l : Nat} (h : Q .normal D ρ H) : SP P n (.label l) Q D ρ H :=
  fun _ _ a _ hf ho => wp_label ⟨ρ, H, by rw [hf.defers]; exact hf, ho, by rw [hf.defers]; exact h⟩

/-- An assertion in the middle, its ghosts 'G'. -/
def Mid {G : Type} (iρ : G → Env) (iH : G → Hp) (ok : G → Prop) (D : Defs) : Kont :=
  fun D' ρ' H' => D' = D ∧ ∃ g rest, ok g ∧ Sub (iρ g) ρ' ∧ Part H' (iH g) rest
theorem Mid.intro {G : Type} {iρ : G → Env} {iH : G → Hp} {ok : G → Prop} (g : G) (h : ok g) (hs : Sub (iρ g) ρ) {rest : Hp} (hh : Part H (iH g) rest) : Mid iρ iH ok D D ρ H := ⟨rfl, g, rest, h, hs, hh⟩
theorem SP_mid {x y : Code} {G : Type} (iρ : G → Env) (iH : G → Hp) (ok : G → Prop) (h : SP P n x (thenP (Mid iρ iH ok D) Q) D ρ H) (k : ∀ g, ok g → SP P n y Q D (iρ g) (iH g)) : SP P n (.seq x y) Q D ρ H :=
  SP_cut (Mid iρ iH ok D) h (by
    rintro D' ρ' H' ⟨rfl, g, rest, h1, h2, h3⟩ A F a w hf ho
    exact k g h1 A F a w (hf.sub h2) (h3.drop ho))
theorem SPO_pyif {i d j t : Nat} {b : Bool} {op : Op} {ty : TypeId} {pos : String} {af : Array Edge} {p : Prop} [Decidable p] {ord : List (Nat × Nat)} (hi : ops[i]? = some { dst := some d, op := op, type := ty, pos := pos, after := af, guard := some (j, b) })
    (hj : (ops[j]?).bind (·.dst) = some t) (ht : look ρ t = some (.bool b)) (hy : Yo P n op ty ρ [] (.bool (decide p))) (hd : Nat.ble (d + 1) n = true)
    (k1 : p → SPO P n ops Q Hs ord D ((d, .bool true) :: ρ) H) (k2 : ¬ p → SPO P n ops Q Hs ord D ((d, .bool false) :: ρ) H) : SPO P n ops Q Hs ((i, 0) :: ord) D ρ H := by
  by_cases hp : p
  · exact SPO_py hi hj ht (by simpa [hp] using hy) hd (k1 hp)
  · exact SPO_py hi hj ht (by simpa [hp] using hy) hd (k2 hp)
theorem SPO_pyifn {i d j t : Nat} {b : Bool} {op : Op} {ty : TypeId} {pos : String} {af : Array Edge} {p : Prop} [Decidable p] {ord : List (Nat × Nat)} (hi : ops[i]? = some { dst := some d, op := op, type := ty, pos := pos, after := af, guard := some (j, b) })
    (hj : (ops[j]?).bind (·.dst) = some t) (ht : look ρ t = some (.bool b)) (hy : Yo P n op ty ρ [] (.bool (decide p))) (hd : Nat.ble (d + 1) n = true)
    (k2 : ¬ p → SPO P n ops Q Hs ord D ((d, .bool false) :: ρ) H) (k1 : p → SPO P n ops Q Hs ord D ((d, .bool true) :: ρ) H) : SPO P n ops Q Hs ((i, 0) :: ord) D ρ H := SPO_pyif hi hj ht hy hd k1 k2

theorem y_assertR {x : Operand} {t a : TypeId} {ok : Bool} {v r : Value} (hx : ev ρ x = some v) (h : ∀ w, (Instr.typeAssert v t a ok).run P w = .ok r w) : Yo P n (.typeAssert x t a ok) ty ρ H r :=
  .mk fun _ _ hf w => by
    simp only [runs, execOp, hf.ev hx, h, Sem.run_bind, Result.andThen_ok]
    rfl
theorem y_ine_nil {t u : TypeId} {ms : Array (String × TypeId)} {x : Operand} {v : Value} {c : Bool} (ht : P.underlying t = some (.interface ms)) (hx : ev ρ x = some v)
    (hc : (match v with | .nilIface => some false | .iface _ _ => some true | _ => none) = some c) : Yo P n (.binOp .neq t x (.const .nilIface) u) ty ρ H (.bool c) :=
  .mk fun _ a hf w => by
    have h1 : (Op.equal t v .nilIface).run P w = .ok (!c) w := by
      have : ∀ m : Nat, (Op.equalIn (m + 1) t v .nilIface).run P w = .ok (!c) w := fun m => by
        cases v <;> simp at hc <;> subst hc <;> simp [Op.equalIn, run_underlying ht]
      exact this 9999
    have h2 : a.eval (.const .nilIface) = .nilIface := rfl
    simp only [runs, execOp, hf.ev hx, h2, eqGuard, Sem.run_bind, binOp]
    cases v <;> simp at hc <;> subst hc <;> simp [h1]
def nilI (v : Value) : Option Bool := match v with | .nilIface => some true | .iface _ _ => some false | _ => none
theorem y_ieq_nil {t u : TypeId} {ms : Array (String × TypeId)} {x : Operand} {v : Value} {c : Bool} (ht : P.underlying t = some (.interface ms)) (hx : ev ρ x = some v)
    (hc : nilI v = some c) : Yo P n (.binOp .eql t x (.const .nilIface) u) ty ρ H (.bool c) :=
  .mk fun _ a hf w => by
    have h1 : (Op.equal t v .nilIface).run P w = .ok c w := by
      have : ∀ m : Nat, (Op.equalIn (m + 1) t v .nilIface).run P w = .ok c w := fun m => by
        cases v <;> simp [nilI] at hc <;> subst hc <;> simp [Op.equalIn, run_underlying ht]
      exact this 9999
    have h2 : a.eval (.const .nilIface) = .nilIface := rfl
    simp only [runs, execOp, hf.ev hx, h2, eqGuard, Sem.run_bind, binOp]
    cases v <;> simp [nilI] at hc <;> subst hc <;> simp [h1]
/-- A row of two (elements of two cells). -/
theorem SP1_slice2 {t e : TypeId} {x y : Operand} {bytes : Nat} {z : List Value} {v u : Value} {a1 a2 b1 b2 : Value} (el : El P t e 2 bytes z) (hx : ev ρ x = some v) (hy : ev ρ y = some u) (hv : v.cells = [a1, a2].toArray) (hu : u.cells = [b1, b2].toArray) (hd : Nat.ble (d + 1) n = true)
    (kk : ∀ b, K D ((d, .slice (some ⟨b, 0, none⟩) 2 2) :: ρ) (blk b e [a1, a2, b1, b2] :: H)) : SP1 P n { dst := some d, op := .buildSlice t 2 #[(0, x), (1, y)], type := ty, pos := pos, after := af, guard := g } Q K D ρ H :=
  SP1_new (x := .cells #[a1, a2, b1, b2] e (0, 0)) (v := fun b => .slice (some ⟨b, 0, none⟩) 2 2) hd (fun a w hf => by
    obtain ⟨i, z0, hi, hik, _, hz, hzc⟩ := el.info
    have hzs : z0.cells.size = 2 := by rw [hzc]; simpa using el.zl
    have hfill : ∀ (arr : Array Value), arr.size = 4 → Instr.fill (fun i => some (i * 2, 2)) arr [(0, v), (1, u)] = some #[a1, a2, b1, b2] := by
      intro arr harr
      obtain ⟨l⟩ := arr
      match l, harr with
      | [c1, c2, c3, c4], _ => simp [Instr.fill, hv, hu]
    have := hfill ((Array.range 4).map (z0.cells[· % z0.cells.size]!)) (by simp)
    simp [runs, execOp, Instr.buildSlice, run_underlying el.sl, el.size, zeroValue, typeInfo, hi, hz, hf.ev hx, hf.ev hy, this, newRow]) kk
end
end Go.Sl
