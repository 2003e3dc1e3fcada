/- Rules: nodes of the tree as interface values. -/
import Derived.Test.Qxb6500573aGreatDoorAP
namespace Go.Sl
open Go Go.Wl Go.Proofs
set_option linter.unusedVariables false
section
variable {P : Program} {n : Nat} {Q : Post} {D : Defs} {ρ : Env} {H : Hp} {ty : TypeId} {K : Kont} {d : Nat} {pos : String} {af : Array Edge} {g : Option (Nat × Bool)}
theorem y_nE {t u : TypeId} {ms : Array (String × TypeId)} {x : Operand} {v : Value} {tt : T} {s : Seg} (ht : P.underlying t = some (.interface ms)) (hx : ev ρ x = some v) (hN : IsN tt v s) : Yo P n (.binOp .eql t x (.const .nilIface) u) ty ρ H (.bool (decide (tt.isNil = true))) := by
  have := y_ieq_nil (n := n) (u := u) (ty := ty) (H := H) ht hx hN.nilI
  simpa using this
theorem y_nN {t u : TypeId} {ms : Array (String × TypeId)} {x : Operand} {v : Value} {tt : T} {s : Seg} (ht : P.underlying t = some (.interface ms)) (hx : ev ρ x = some v) (hN : IsN tt v s) : Yo P n (.binOp .neq t x (.const .nilIface) u) ty ρ H (.bool (decide (¬ tt.isNil = true))) := by
  have := y_ine_nil (n := n) (u := u) (ty := ty) (H := H) (c := !tt.isNil) ht hx (by cases hN <;> rfl)
  simpa using this
theorem y_peql_T {t e u : TypeId} {x y : Operand} {a : Addr} (ht : P.underlying t = some (.pointer e)) (hx : ev ρ x = some (.pointer (some a))) (hy : ev ρ y = some (.pointer none)) : Yo P n (.binOp .eql t x y u) ty ρ H (.bool false) := by
  simpa using y_peq_nil (n := n) (u := u) (ty := ty) (H := H) ht hx hy
theorem y_peql_F {t e u : TypeId} {x y : Operand} (ht : P.underlying t = some (.pointer e)) (hx : ev ρ x = some (.pointer none)) (hy : ev ρ y = some (.pointer none)) : Yo P n (.binOp .eql t x y u) ty ρ H (.bool true) := by
  simpa using y_peq_nil (n := n) (u := u) (ty := ty) (H := H) ht hx hy
theorem y_pneq_T {t e u : TypeId} {x y : Operand} {a : Addr} (ht : P.underlying t = some (.pointer e)) (hx : ev ρ x = some (.pointer (some a))) (hy : ev ρ y = some (.pointer none)) : Yo P n (.binOp .neq t x y u) ty ρ H (.bool true) := by
  simpa using y_pne_nil (n := n) (u := u) (ty := ty) (H := H) ht hx hy
theorem y_pneq_F {t e u : TypeId} {x y : Operand} (ht : P.underlying t = some (.pointer e)) (hx : ev ρ x = some (.pointer none)) (hy : ev ρ y = some (.pointer none)) : Yo P n (.binOp .neq t x y u) ty ρ H (.bool false) := by
  simpa using y_pne_nil (n := n) (u := u) (ty := ty) (H := H) ht hx hy
theorem y_assertB {x : Operand} {t a u : TypeId} {v z : Value} {dsc : TypeDesc} (ht : P.underlying a = some dsc) (hd : (match dsc with | .interface _ => true | _ => false) = false) (hz : ∀ w, (zeroValue a).run P w = .ok z w) (hx : ev ρ x = some (.iface u v)) :
    Yo P n (.typeAssert x t a true) ty ρ H (.tuple #[bif Nat.beq u a then v else z, .bool (Nat.beq u a)]) := by
  cases h : Nat.beq u a with
  | true =>
    have := Nat.eq_of_beq_eq_true h
    subst this
    exact y_assertOk ht hd hx
  | false => exact y_assertNo ht hd hz hx h
theorem y_assertQ {x : Operand} {t a u : TypeId} {v z : Value} {dsc : TypeDesc} {q : Bool} (ht : P.underlying a = some dsc) (hd : (match dsc with | .interface _ => true | _ => false) = false) (hz : ∀ w, (zeroValue a).run P w = .ok z w) (hx : ev ρ x = some (.iface u v)) (hq : Nat.beq u a = q) :
    Yo P n (.typeAssert x t a true) ty ρ H (.tuple #[bif q then v else z, .bool q]) := by
  subst hq
  exact y_assertB ht hd hz hx
theorem _root_.Go.Wl.IsN.two {t : T} {v : Value} {s : Seg} (h : IsN t v s) : (t = .nil ∧ v = .nilIface ∧ s = []) ∨ (t.isNil = false ∧ ∃ b, v = .iface t.ty (pt b)) := by
  cases hn : t.isNil with
  | true => exact .inl (h.none hn)
  | false => exact .inr ⟨rfl, h.shape hn⟩
/-- A struct amid a block. -/
theorem SP1_storesAt {t : TypeId} {x y : Operand} {b o k : Nat} {T : TypeId} {v : Value} {vs l : List Value} {H' : Hp} (hz : ∀ w, (sizeOf t).run P w = .ok k w) (hx : ev ρ x = some (.pointer (some ⟨b, o, none⟩))) (hy : ev ρ y = some v)
    (hv : v.cells = vs.toArray) (hk : vs.length = k) (h1 : vs.all Value.oneCell' = true) (hu : Upd H b T l (l.take o ++ vs ++ l.drop (o + k)) H') (hl : Nat.ble (o + k) l.length = true)
    (kk : K D ρ H') : SP1 P n { dst := none, op := .store t x y, type := ty, pos := pos, after := af, guard := g } Q K D ρ H :=
  SP1_stores hz hx hy hv hk (fun u hu => List.all_eq_true.1 h1 u hu) hu (by have := Nat.le_of_ble_eq_true hl; omega) (by rw [hk]) kk
theorem SP1_slice12 {t e : TypeId} {x y : Operand} {bytes : Nat} {z : List Value} {v u : Value} (el : El P t e 1 bytes z) (hx : ev ρ x = some v) (hy : ev ρ y = some u) (hv : v.cells = [v].toArray) (hu : u.cells = [u].toArray) (hd : Nat.ble (d + 1) n = true)
    (kk : ∀ b, K D ((d, .slice (some ⟨b, 0, none⟩) 2 2) :: ρ) (blk b e [v, u] :: H)) : SP1 P n { dst := some d, op := .buildSlice t 2 #[(0, x), (1, y)], type := ty, pos := pos, after := af, guard := g } Q K D ρ H :=
  SP1_new (x := .cells #[v, u] e (0, 0)) (v := fun b => .slice (some ⟨b, 0, none⟩) 2 2) hd (fun a w hf => by
    obtain ⟨i, z0, hi, hik, _, hz, hzc⟩ := el.info
    have hzs : z0.cells.size = 1 := by rw [hzc]; simpa using el.zl
    have hfill : ∀ (arr : Array Value), arr.size = 2 → Instr.fill (fun i => some (i * 1, 1)) arr [(0, v), (1, u)] = some #[v, u] := by
      intro arr harr
      obtain ⟨l⟩ := arr
      match l, harr with
      | [c1, c2], _ => simp [Instr.fill, hv, hu]
    have h2 := hfill ((Array.range 2).map (z0.cells[· % z0.cells.size]!)) (by simp)
    simp only [Nat.mul_one] at h2
    simp [runs, execOp, Instr.buildSlice, run_underlying el.sl, el.size, zeroValue, typeInfo, hi, hz, hf.ev hx, hf.ev hy, h2, newRow]) kk
end
/-- What the parser's walks share. -/
structure PX where
  gs : Seg
  toks : List Tok
  ta : Option Addr
  tc : Nat
  p : Nat
  st : Seg
  hG : GOk gs
  htl : toks.length ≤ 1000000
  hst : Arr 156 5 ta toks.length tc (toks.flatMap tokV) st
def PX.b (x : PX) (s : PS) : Seg := pb x.toks x.ta x.tc x.p s
end Go.Sl
