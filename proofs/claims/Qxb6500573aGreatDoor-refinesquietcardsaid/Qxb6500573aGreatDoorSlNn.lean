/- Floats: operations whose answer may be a NaN. -/
import Derived.Test.Qxb6500573aGreatDoorFX
namespace Go.Sl
open Go Go.Proofs
set_option linter.unusedSimpArgs false
set_option linter.unusedVariables false
/-- r is what an operation with the exact answer o yields. -/
def FR (o : Option Nat) (r : Nat) : Prop := o = some r ∨ (o = none ∧ isNan (FloatKind.f64.decode r) = true)
def fop : BinOp → Nat → Nat → Option Nat
  | .add, a, b => FloatKind.f64.format.add a b
  | .sub, a, b => FloatKind.f64.format.sub a b
  | .mul, a, b => FloatKind.f64.format.mul a b
  | .quo, a, b => FloatKind.f64.format.div a b
  | _, _, _ => none
theorem nan_read {w : Nat} (h : 9218868437227405312 < w % 9223372036854775808) : isNan (FloatKind.f64.decode w) = true := by
  have e : FloatKind.f64.decode w = Ieee.Format.read Ieee.double w := rfl
  rw [e]
  unfold Ieee.Format.read
  have e1 : Ieee.double.signWeight = 9223372036854775808 := by decide
  have e2 : Ieee.double.binade = 4503599627370496 := by decide
  have e3 : Ieee.double.infRung = 9218868437227405312 := by decide
  dsimp only
  rw [e1, e2, e3, if_neg (by omega), if_neg (by omega), if_neg (by omega)]
  rfl
theorem nan_cut (t : Nat) : isNan (FloatKind.f64.decode ((t % 2) * 2 ^ 63 + 0x7ff0000000000000 + 1 + (t / 2) % (2 ^ 52 - 1))) = true := by
  refine nan_read ?_
  have h1 : (2 : Nat) ^ 63 = 9223372036854775808 := by decide
  have h2 : (2 : Nat) ^ 52 - 1 = 4503599627370495 := by decide
  rw [h1, h2]
  have := Nat.mod_lt (t / 2) (show 4503599627370495 > 0 by decide)
  generalize t / 2 % 4503599627370495 = u at this ⊢
  rcases Nat.mod_two_eq_zero_or_one t with h | h
  · rw [h, Nat.mod_eq_of_lt (by omega)]; omega
  · rw [h, show 1 * 9223372036854775808 + 9218868437227405312 + 1 + u = 9223372036854775808 + (9218868437227405313 + u) from by omega, Nat.add_mod_left, Nat.mod_eq_of_lt (by omega)]; omega
theorem nan_ford {r b : Nat} (h : isNan (FloatKind.f64.decode r) = true) : ford r b = none := by
  unfold ford Ieee.Format.order
  have e : FloatKind.f64.format.read r = FloatKind.f64.decode r := rfl
  rw [e]
  cases hd : FloatKind.f64.decode r with
  | nan s t => rfl
  | _ => rw [hd] at h; cases h
theorem nan_not {r : Nat} (h : isNan (FloatKind.f64.decode r) = true) : ford r r ≠ some .eq := by rw [nan_ford h]; decide
theorem nan_mul {r b : Nat} (h : isNan (FloatKind.f64.decode r) = true) : FloatKind.f64.format.mul r b = none := by
  unfold Ieee.Format.mul
  have e : FloatKind.f64.format.read r = FloatKind.f64.decode r := rfl
  rw [e]
  cases hd : FloatKind.f64.decode r with
  | nan s t => rfl
  | _ => rw [hd] at h; cases h
theorem nan_subR {r a : Nat} (h : isNan (FloatKind.f64.decode r) = true) : FloatKind.f64.format.sub a r = none := by
  unfold Ieee.Format.sub
  have e : FloatKind.f64.format.read r = FloatKind.f64.decode r := rfl
  rw [e]
  cases hd : FloatKind.f64.decode r with
  | nan s t => cases FloatKind.f64.format.read a <;> rfl
  | _ => rw [hd] at h; cases h
theorem quiet_nan (s : Bool) {t : Nat} (ht : t < 4503599627370496) : isNan (FloatKind.f64.decode (FloatKind.f64.encode (.nan s (FloatKind.f64.format.quiet t)))) = true := by
  have e : FloatKind.f64.encode (.nan s (FloatKind.f64.format.quiet t)) = Ieee.Format.write Ieee.double (.nan s (t ||| 2251799813685248)) := rfl
  rw [e]
  have h1 : 2251799813685248 ≤ t ||| 2251799813685248 := Nat.right_le_or
  have h2 : t ||| 2251799813685248 < 4503599627370496 := Nat.or_lt_two_pow (n := 52) ht (by decide)
  generalize t ||| 2251799813685248 = u at h1 h2
  refine nan_read ?_
  unfold Ieee.Format.write Ieee.Format.word
  have e1 : Ieee.double.signWeight = 9223372036854775808 := by decide
  have e2 : Ieee.double.binade = 4503599627370496 := by decide
  have e3 : Ieee.double.infRung = 9218868437227405312 := by decide
  rw [e1, e2, e3]
  dsimp only
  rw [Nat.mod_eq_of_lt h2]
  cases s with
  | true => rw [if_pos rfl, Nat.add_mod_left, Nat.mod_eq_of_lt (by omega)]; omega
  | false => rw [if_neg (by decide), Nat.mod_eq_of_lt (by omega)]; omega
theorem nan_frac {b : Nat} {s : Bool} {t : Nat} (h : Ieee.Format.read Ieee.double b = .nan s t) : t < 4503599627370496 := by
  unfold Ieee.Format.read at h
  have e1 : Ieee.double.signWeight = 9223372036854775808 := by decide
  have e2 : Ieee.double.binade = 4503599627370496 := by decide
  have e3 : Ieee.double.infRung = 9218868437227405312 := by decide
  dsimp only at h
  rw [e1, e2, e3] at h
  have hm := Nat.mod_lt b (show 9223372036854775808 > 0 by decide)
  split at h
  · cases h
  · split at h
    · cases h
    · split at h
      · cases h
      · cases h; omega
section
variable {P : Program} {n : Nat} {Q : Post} {D : Defs} {ρ : Env} {H : Hp} {ty : TypeId} {K : Kont}
variable {t u : TypeId} {x y : Operand} {a b : Nat}
theorem run_far {o : BinOp} (ho : o = .add ∨ o = .sub ∨ o = .mul ∨ o = .quo) (w : World) : ∃ r w', (Op.floatArith o .f64 a b).run P w = .ok (Fl r) w' ∧ (w' = w ∨ w' = w.drew) ∧ FR (fop o a b) r := by
  have key : ∀ q : Option Nat, ∃ r w', (match q with | some r => pure (.float .f64 r) | none => do pure (.float .f64 (← choose (.nanBits .f64 a b))) : Sem Value).run P w = .ok (Fl r) w' ∧ (w' = w ∨ w' = w.drew) ∧ FR q r := by
    intro q
    cases q with
    | some r => exact ⟨r, w, rfl, .inl rfl, .inl rfl⟩
    | none => exact ⟨_, w.drew, by simp [run_choose, Question.forced, Question.cut], .inr rfl, .inr ⟨rfl, nan_cut (w.tape w.drawn (.nanBits .f64 a b))⟩⟩
  rcases ho with rfl | rfl | rfl | rfl
  · exact key (FloatKind.f64.format.add a b)
  · exact key (FloatKind.f64.format.sub a b)
  · exact key (FloatKind.f64.format.mul a b)
  · exact key (FloatKind.f64.format.div a b)
theorem SP1_far {o : BinOp} {d : Nat} {pos : String} {af : Array Edge} {g : Option (Nat × Bool)} (ho : o = .add ∨ o = .sub ∨ o = .mul ∨ o = .quo) (hx : ev ρ x = some (Fl a)) (hy : ev ρ y = some (Fl b)) (hd : Nat.ble (d + 1) n = true)
    (k : ∀ r, FR (fop o a b) r → K D ((d, Fl r) :: ρ) H) : SP1 P n { dst := some d, op := .binOp o t x y u, type := ty, pos := pos, after := af, guard := g } Q K D ρ H :=
  fun A F a' w hf hw => by
    obtain ⟨r, w', h1, h2, h3⟩ := run_far (P := P) (a := a) (b := b) ho w
    have h4 : (execOp a'.eval { dst := some d, op := .binOp o t x y u, type := ty, pos := pos, after := af, guard := g }).run P w = .ok (.value (Fl r)) w' := by
      have e : (execOp a'.eval { dst := some d, op := .binOp o t x y u, type := ty, pos := pos, after := af, guard := g }).run P w = ((Op.floatArith o .f64 a b).run P w).andThen fun v w => .ok (.value v) w := by
        rcases ho with rfl | rfl | rfl | rfl <;> simp [execOp, hf.ev hx, hf.ev hy, eqGuard, binOp]
      rw [e, h1]; rfl
    unfold Oper.wp
    rw [h4]
    have hw' : Own A w' (List.flatten H ++ F) := by
      rcases h2 with rfl | rfl
      · exact hw
      · exact hw.drew
    exact ⟨_, _, by rw [show (a'.put (some d) (Fl r)).defers = D from hf.defers]; exact hf.put hd _, hw', by rw [show (a'.put (some d) (Fl r)).defers = D from hf.defers]; exact k r h3⟩
end
end Go.Sl
