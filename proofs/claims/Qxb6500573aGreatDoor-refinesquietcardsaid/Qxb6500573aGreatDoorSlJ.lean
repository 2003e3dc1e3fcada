/- Slices cut, rows read and written at an index. -/
import Derived.Test.Qxb6500573aGreatDoorSlI
namespace Go.Sl
open Go

section
variable {P : Program} {n : Nat} {Q : Post} {D : Defs} {ρ : Env} {H : Hp} {ops : Array Oper} {ty : TypeId} {K : Kont} {d : Nat} {pos : String} {af : Array Edge} {g : Option (Nat × Bool)} {Hs : Hp}

theorem bool_t {p : Prop} [Decidable p] (h : p) : Value.bool true = Value.bool (decide p) := by simp [h]
theorem bool_f {p : Prop} [Decidable p] (h : ¬ p) : Value.bool false = Value.bool (decide p) := by simp [h]
theorem bool_d {p q : Prop} [Decidable p] [Decidable q] (h : q ↔ p) : Value.bool (decide q) = Value.bool (decide p) := by simp [h]

theorem bool_t' {p : Prop} {i : Decidable p} (h : p) : Value.bool true = Value.bool (@decide p i) := by simp [h]
theorem bool_f' {p : Prop} {i : Decidable p} (h : ¬ p) : Value.bool false = Value.bool (@decide p i) := by simp [h]
theorem bool_d' {p q : Prop} {i : Decidable p} {j : Decidable q} (h : q ↔ p) : Value.bool (@decide q j) = Value.bool (@decide p i) := by simp [h]
/-- Against the empty string: by the length. -/
theorem y_sne0 {t u : TypeId} {x y : Operand} {l : List UInt8} (hx : ev ρ x = some (S l)) (hy : ev ρ y = some (S [])) : Yo P n (.binOp .neq t x y u) ty ρ H (.bool (decide (l.length ≠ 0))) := by
  have h := y_sne (P := P) (n := n) (t := t) (u := u) (ty := ty) (H := H) hx hy
  have e : decide (l ≠ []) = decide (l.length ≠ 0) := by cases l <;> simp
  rwa [e] at h
theorem y_seq0 {t u : TypeId} {x y : Operand} {l : List UInt8} (hx : ev ρ x = some (S l)) (hy : ev ρ y = some (S [])) : Yo P n (.binOp .eql t x y u) ty ρ H (.bool (decide (l.length = 0))) := by
  have h := y_seq (P := P) (n := n) (t := t) (u := u) (ty := ty) (H := H) hx hy
  have e : decide (l = []) = decide (l.length = 0) := by cases l <;> simp
  rwa [e] at h
/-- '[]T{}'. -/
theorem SP1_slice0 {t e : TypeId} {k bytes : Nat} {z : List Value} (el : El P t e k bytes z) (hd : Nat.ble (d + 1) n = true)
    (kk : ∀ b, K D ((d, .slice (some ⟨b, 0, none⟩) 0 0) :: ρ) (blk b e [] :: H)) : SP1 P n { dst := some d, op := .buildSlice t 0 #[], type := ty, pos := pos, after := af, guard := g } Q K D ρ H :=
  SP1_new (x := .cells #[] e (0, 0)) (v := fun b => .slice (some ⟨b, 0, none⟩) 0 0) hd (fun a w hf => by
    have : (Array.map (fun _ => (default : Value)) (Array.range 0)) = #[] := by apply Array.eq_empty_of_size_eq_zero; simp
    simp [runs, execOp, Instr.buildSlice, run_underlying el.sl, el.size, Instr.fill, newRow]
    congr 2) kk

theorem Arr.cut {T : TypeId} {k : Nat} {a : Option Addr} {m c : Nat} {xs : List Value} {s : Seg} (h : Arr T k a m c xs s) {j : Nat} (hj : j ≤ m) : Arr T k a j c (xs.take (j * k)) s := by
  obtain ⟨hl, h⟩ := h
  have hjk : j * k ≤ m * k := Nat.mul_le_mul_right k hj
  rcases h with ⟨rfl, rfl, rfl, rfl⟩ | ⟨b, sp, rfl, h1, h2, rfl⟩
  · have : j = 0 := by omega
    subst this; exact ⟨by simp, .inl ⟨rfl, rfl, rfl, rfl⟩⟩
  · refine ⟨by simp [List.length_take]; omega, .inr ⟨b, xs.drop (j * k) ++ sp, rfl, by omega, ?_, ?_⟩⟩
    · rw [List.length_append, List.length_drop, hl, h2, ← Nat.sub_mul, ← Nat.add_mul]; congr 1; omega
    · rw [← List.append_assoc, List.take_append_drop]

theorem y_cut {t e T : TypeId} {k z : Nat} {x hi : Operand} {kd : IntKind} {a : Option Addr} {m c : Nat} {j : Int} {xs : List Value} {s : Seg} (ha : Arr T k a m c xs s) (ht : P.underlying t = some (.slice e)) (hz : ∀ w, (sizeOf e).run P w = .ok z w)
    (hx : ev ρ x = some (.slice a m c)) (hh : ev ρ hi = some (.int kd j)) (h : 0 ≤ j ∧ j ≤ c) : Yo P n (.slice t x none (some hi) none) ty ρ H (.slice a j.toNat c) :=
  .mk fun _ _ hf w => by
    have e : (if c = 0 then a else a.map (·.add (0 * z))) = a := by
      rcases ha.2 with ⟨rfl, _⟩ | ⟨b, sp, rfl, _⟩
      · simp
      · simp [Addr_add]
    have hb : ∀ code, (Instr.sliceBound (.int kd j) c code).run P w = .ok j.toNat w := fun code => run_sliceBound w kd j c code h.1 h.2
    simp [runs, execOp, Instr.sliceAt, Instr.slice, Instr.sliceBounds, run_underlying ht, hf.ev hx, hf.ev hh, hb, hz] at e ⊢
    exact e

/-! Rows of one-cell elements. -/
theorem row1 {α : Type} {f : α → Value} {l : List α} {sp : List Value} {j : Int} {i : Nat} (hj : j = i) (hi : i < l.length) : (l.map f ++ sp)[0 + j.toNat * 1]? = some (f l[i]) := by
  subst hj
  rw [Int.toNat_natCast, Nat.zero_add, Nat.mul_one, List.getElem?_append_left (by simpa using hi)]
  simp [hi]
theorem row1_set {α : Type} {f : α → Value} {l : List α} {sp : List Value} {j : Int} {i : Nat} {x : α} (hj : j = i) (hi : i < l.length) : (l.map f ++ sp).set (0 + j.toNat * 1) (f x) = (l.set i x).map f ++ sp := by
  subst hj
  simp [List.set_append_left, hi, List.map_set]
theorem ble_of {a b : Nat} (h : a < b) : Nat.ble (a + 1) b = true := by rw [Nat.ble_eq]; exact h

/-! Rows of elements of k cells. -/
theorem flat_len {α : Type} {f : α → List Value} {k : Nat} (hf : ∀ x, (f x).length = k) (l : List α) : (l.flatMap f).length = l.length * k := by
  induction l with
  | nil => simp
  | cons x l ih => simp [List.flatMap_cons, hf, ih, Nat.add_mul]; omega
theorem flat_at {α : Type} {f : α → List Value} {k : Nat} (hf : ∀ x, (f x).length = k) (l : List α) (sp : List Value) {i : Nat} (hi : i < l.length) : ((l.flatMap f ++ sp).drop (i * k)).take k = f l[i] := by
  induction l generalizing i with
  | nil => simp at hi
  | cons x l ih =>
    cases i with
    | zero => simp [List.flatMap_cons, ← hf x]
    | succ i =>
      have := ih (i := i) (by simpa using hi)
      simp only [List.flatMap_cons, List.getElem_cons_succ]
      rw [← this, show (i + 1) * k = (f x).length + i * k from by rw [hf, Nat.add_mul]; omega, List.append_assoc, List.drop_append]
      rw [List.drop_eq_nil_of_le (by omega)]
      simp
/-- A whole element. -/
theorem Cells.elem {α : Type} {f : α → List Value} {k : Nat} (hf : ∀ x, (f x).length = k) {b : Nat} {T : TypeId} {l : List α} {sp : List Value} {H : Hp} {j : Int} {i : Nat} (hj : j = i) (hi : i < l.length) :
    Cells (blk b T (l.flatMap f ++ sp) :: H) b (0 + j.toNat * k) (f l[i]) := by
  subst hj
  refine Cells.head ?_
  rw [hf, Nat.zero_add, Int.toNat_natCast]
  exact flat_at hf l sp hi
/-- The same, of cells that are only known in part. -/
theorem Cells.mid {k : Nat} {b : Nat} {T : TypeId} {cs sp vs : List Value} {H : Hp} {j : Int} {i : Nat} (h : (cs.drop (i * k)).take k = vs) (hl : vs.length = k) (hj : j = i) : Cells (blk b T (cs ++ sp) :: H) b (0 + j.toNat * k) vs := by
  subst hj
  refine Cells.head ?_
  rw [hl, Nat.zero_add, Int.toNat_natCast, ← h]
  have : k ≤ (cs.drop (i * k)).length := by
    have := congrArg List.length h
    rw [List.length_take, hl] at this; omega
  rw [List.drop_append, List.take_append, Nat.sub_eq_zero_of_le this]
  simp
theorem Cell.mid {k : Nat} {b : Nat} {T : TypeId} {cs sp vs : List Value} {H : Hp} {j : Int} {i q : Nat} {v : Value} (h : (cs.drop (i * k)).take k = vs) (hl : vs.length = k) (hj : j = i) (hv : vs[q]? = some v) : Cell (blk b T (cs ++ sp) :: H) b (0 + j.toNat * k + q) v :=
  (Cells.mid h hl hj).cell hv
/-- One cell of an element. -/
theorem Cell.elem {α : Type} {f : α → List Value} {k : Nat} (hf : ∀ x, (f x).length = k) {b : Nat} {T : TypeId} {l : List α} {sp : List Value} {H : Hp} {j : Int} {i q : Nat} {v : Value} (hj : j = i) (hi : i < l.length) (hv : (f l[i])[q]? = some v) :
    Cell (blk b T (l.flatMap f ++ sp) :: H) b (0 + j.toNat * k + q) v :=
  (Cells.elem hf hj hi).cell hv

/-- 'copy' into a row of our own. -/
theorem SP1_copy {x y : Operand} {t u e T : TypeId} {k bytes : Nat} {z : List Value} {xv : Value} {b o dl dc j : Nat} {vs l l' : List Value} {H' : Hp} (el : El P t e k bytes z) (hx : ev ρ x = some (.slice (some ⟨b, o, none⟩) dl dc)) (hy : ev ρ y = some xv)
    (hs : Src P H k xv j vs) (h1 : vs.all Value.oneCell' = true) (hu : Upd H b T l l' H') (hlen : o + min j dl * k ≤ l.length) (hl' : l' = l.take o ++ vs.take (min j dl * k) ++ l.drop (o + min j dl * k)) (hn : Nat.ble (d + 1) n = true)
    (kk : K D ((d, I (min j dl : Nat)) :: ρ) H') :
    SP1 P n { dst := some d, op := .call { callee := .builtin .copy, args := #[x, y], argTypes := #[t, u] }, type := ty, pos := pos, after := af, guard := g } Q K D ρ H :=
  fun A F a w hf ho => by
    obtain ⟨hsl, hlj, hcells⟩ := hs
    have hmem : ∀ p, p ∈ H.flatten → p ∈ H.flatten ++ F := fun p hp => List.mem_append_left _ hp
    have hc := hcells (min j dl) (Nat.min_le_left _ _) A _ w ho hmem
    have hjk : min j dl * k ≤ vs.length := by rw [hsl]; exact Nat.mul_le_mul_right k (Nat.min_le_left _ _)
    have hlt : (vs.take (min j dl * k)).length = min j dl * k := by rw [List.length_take]; omega
    obtain ⟨R, o1, o2⟩ := Own.upd hu ho
    obtain ⟨w', hr, ho'⟩ := run_storeCells (P := P) (o := o) (vs.take (min j dl * k)) 0 l w (fun v hv => List.all_eq_true.1 h1 v (List.mem_of_mem_take hv)) (by rw [hlt]; omega) o1
    have hrun : (execOp a.eval { dst := some d, op := .call { callee := .builtin .copy, args := #[x, y], argTypes := #[t, u] }, type := ty, pos := pos, after := af, guard := g }).run P w = .ok (.value (I (min j dl : Nat))) w' := by
      simp only [execOp, resolve, invoke, builtin, Builtin.copy_, Sem.run_bind, Sem.run_pure, Result.andThen_ok]
      simp [hf.ev hx, hf.ev hy, run_underlying el.sl, hlj, el.size, hc, hr, goInt]
    have hdf : ∀ v', (a.put (some d) v').defers = D := fun v' => hf.defers
    unfold Oper.wp
    rw [hrun]
    refine ⟨_, _, by rw [hdf]; exact hf.put hn _, o2 _ ?_, by rw [hdf]; exact kk⟩
    rw [hl']
    rw [hlt] at ho'
    simpa using ho'
end
end Go.Sl
