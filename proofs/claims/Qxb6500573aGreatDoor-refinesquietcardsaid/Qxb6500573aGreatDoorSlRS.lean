/- Ranging over a string; a rune as a string. -/
import Derived.Test.Qxb6500573aGreatDoorSlW
namespace Go.Sl
open Go
set_option linter.unusedVariables false
/-- The rune at a place, and its width. -/
def runeAt (l : List UInt8) (i : Nat) : Nat × Nat := Utf8.decode ⟨⟨l⟩⟩ i
def encR (r : Int) : List UInt8 := (Utf8.encode r).data.toList
def iterS (b : Nat) (l : List UInt8) (i : Nat) : Seg := [(b, .stringIter ⟨⟨l⟩⟩ i)]
def nextV (l : List UInt8) (i : Nat) : Value := if i < l.length then .tuple #[.bool true, I i, .int .i32 (runeAt l i).1] else .tuple #[.bool false]
def nextI (l : List UInt8) (i : Nat) : Nat := if i < l.length then i + (runeAt l i).2 else i
section
variable {P : Program} {n : Nat} {Q : Post} {D : Defs} {ρ : Env} {H : Hp} {ty : TypeId} {K : Kont} {d : Nat} {pos : String} {af : Array Edge} {g : Option (Nat × Bool)}
theorem y_i2s {s t : TypeId} {x : Operand} {k : IntKind} {dsc : TypeDesc} {i : Int} (hs : P.underlying s = some dsc) (ht : P.underlying t = some .string) (hx : ev ρ x = some (.int k i)) : Yo P n (.convert s t x) ty ρ H (S (encR i)) :=
  .mk fun _ _ hf _ => by
    simp [runs, execOp, hf.ev hx, convert, underlying, hs, ht, Conv.intToString]
    rfl
theorem SP1_rangeS {t : TypeId} {x : Operand} {l : List UInt8} (ht : P.underlying t = some .string) (hx : ev ρ x = some (S l)) (hd : Nat.ble (d + 1) n = true) (kk : ∀ b, K D ((d, .pointer (some ⟨b, 0, none⟩)) :: ρ) (iterS b l 0 :: H)) :
    SP1 P n { dst := some d, op := .range t x, type := ty, pos := pos, after := af, guard := g } Q K D ρ H :=
  SP1_new (x := .stringIter ⟨⟨l⟩⟩ 0) (v := fun b => .pointer (some ⟨b, 0, none⟩)) hd (fun a w hf => by
    simp [runs, execOp, Instr.range, underlying, ht, hf.ev hx, newObj]
    rfl) kk
theorem SP1_nextS {x : Operand} {b : Nat} {l : List UInt8} {i : Nat} {H' : Hp} (hx : ev ρ x = some (.pointer (some ⟨b, 0, none⟩))) (hp : Pick (iterS b l i) H H') (hd : Nat.ble (d + 1) n = true) (kon : K D ((d, nextV l i) :: ρ) (iterS b l (nextI l i) :: H')) :
    SP1 P n { dst := some d, op := .next x true, type := ty, pos := pos, after := af, guard := g } Q K D ρ H :=
  fun A F a w hfit ho => by
    have ho2 : Own A w ((b, Obj.stringIter ⟨⟨l⟩⟩ i) :: (H'.flatten ++ F)) := by
      have := ho.perm (List.Perm.append_right F hp)
      simpa [iterS] using this
    have hb := ho2.has _ (List.mem_cons_self)
    simp only at hb
    have hg : (getObj b).run P w = .ok (.stringIter ⟨⟨l⟩⟩ i) w := by simp [getObj, Sem.run, hb]
    have hst : ∀ o, (setObj b o).run P w = .ok () { w with heap := w.heap.setIfInBounds b o } := fun o => by simp [setObj, Sem.run, hb]
    have hlt : b < w.heap.size := ho2.lt (List.mem_cons_self)
    unfold Oper.wp
    by_cases hi : i < l.length
    · have hrun : (execOp a.eval { dst := some d, op := .next x true, type := ty, pos := pos, after := af, guard := g }).run P w = .ok (.value (nextV l i)) { w with heap := w.heap.setIfInBounds b (.stringIter ⟨⟨l⟩⟩ (nextI l i)) } := by
        have hsz : i < (ByteArray.mk ⟨l⟩).size := hi
        simp only [execOp, hfit.ev hx, Instr.next, Sem.run_bind, hg, Result.andThen_ok, if_pos hsz, hst, Sem.run_pure, nextV, nextI, if_pos hi, runeAt, goInt]
      rw [hrun]
      refine ⟨_, _, by rw [show (a.put (some d) (nextV l i)).defers = D from hfit.defers]; exact hfit.put hd _, ?_, by rw [show (a.put (some d) (nextV l i)).defers = D from hfit.defers]; exact kon⟩
      have := ho2.put (w' := { w with heap := w.heap.setIfInBounds b (.stringIter ⟨⟨l⟩⟩ (nextI l i)) }) (y := .stringIter ⟨⟨l⟩⟩ (nextI l i)) rfl rfl rfl (by simp [hlt]) (fun q hq => by simp [Array.getElem?_setIfInBounds_ne (Ne.symm hq)])
      simpa [iterS] using this
    · have hrun : (execOp a.eval { dst := some d, op := .next x true, type := ty, pos := pos, after := af, guard := g }).run P w = .ok (.value (nextV l i)) w := by
        have hsz : ¬ i < (ByteArray.mk ⟨l⟩).size := hi
        simp only [execOp, hfit.ev hx, Instr.next, Sem.run_bind, hg, Result.andThen_ok, if_neg hsz, Sem.run_pure, nextV, if_neg hi]
      rw [hrun]
      refine ⟨_, _, by rw [show (a.put (some d) (nextV l i)).defers = D from hfit.defers]; exact hfit.put hd _, ?_, by rw [show (a.put (some d) (nextV l i)).defers = D from hfit.defers]; exact kon⟩
      rw [show nextI l i = i from if_neg hi]
      simpa [iterS] using ho2
theorem y_nx0 {x : Operand} {l : List UInt8} {i : Nat} (hx : ev ρ x = some (nextV l i)) : Yo P n (.extract x 0) ty ρ H (.bool (decide (i < l.length))) := by
  unfold nextV at hx
  by_cases h : i < l.length
  · rw [if_pos h] at hx; rw [decide_eq_true h]; exact y_ext (vs := [.bool true, I i, .int .i32 (runeAt l i).1]) hx rfl
  · rw [if_neg h] at hx; rw [decide_eq_false h]; exact y_ext (vs := [.bool false]) hx rfl
theorem y_nx1 {x : Operand} {l : List UInt8} {i : Nat} (h : i < l.length) (hx : ev ρ x = some (nextV l i)) : Yo P n (.extract x 1) ty ρ H (I i) := by
  unfold nextV at hx
  rw [if_pos h] at hx; exact y_ext (vs := [.bool true, I i, .int .i32 (runeAt l i).1]) hx rfl
theorem y_nx2 {x : Operand} {l : List UInt8} {i : Nat} (h : i < l.length) (hx : ev ρ x = some (nextV l i)) : Yo P n (.extract x 2) ty ρ H (.int .i32 (runeAt l i).1) := by
  unfold nextV at hx
  rw [if_pos h] at hx; exact y_ext (vs := [.bool true, I i, .int .i32 (runeAt l i).1]) hx rfl
end
end Go.Sl
