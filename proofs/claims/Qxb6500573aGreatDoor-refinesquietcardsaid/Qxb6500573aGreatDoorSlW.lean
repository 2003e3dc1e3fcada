/- Rows of rows: reading and writing one. -/
import Derived.Test.Qxb6500573aGreatDoorSlZ
namespace Go.Sl
open Go
set_option linter.unusedVariables false
theorem flat_cells {α : Type} {f : α → List Value} {k : Nat} (hf : ∀ x, (f x).length = k) {l : List α} {sp : List Value} {i b : Nat} {T : TypeId} {H : Hp} {j : Int} (hj : j = i) (hi : i < l.length) : Cells (blk b T (l.flatMap f ++ sp) :: H) b (0 + j.toNat * k) (f l[i]) := by
  refine Cells.head ?_
  subst hj
  rw [Int.toNat_natCast, Nat.zero_add, hf]
  exact flat_at hf l sp hi
theorem flat_cell {α : Type} {f : α → List Value} {k : Nat} (hf : ∀ x, (f x).length = k) {l : List α} {sp : List Value} {i b q : Nat} {T : TypeId} {H : Hp} {j : Int} {v : Value} (hj : j = i) (hi : i < l.length) (hv : (f l[i])[q]? = some v) : Cell (blk b T (l.flatMap f ++ sp) :: H) b (0 + j.toNat * k + q) v :=
  (flat_cells hf hj hi).cell hv
theorem flat_cell0 {α : Type} {f : α → List Value} {k : Nat} (hf : ∀ x, (f x).length = k) {l : List α} {sp : List Value} {i b : Nat} {T : TypeId} {H : Hp} {j : Int} {v : Value} (hj : j = i) (hi : i < l.length) (hv : (f l[i])[0]? = some v) : Cell (blk b T (l.flatMap f ++ sp) :: H) b (0 + j.toNat * k) v :=
  (flat_cells hf hj hi).cell hv
theorem SP_openAt {P : Program} {n : Nat} {c : Code} {Q : Post} {D : Defs} {ρ : Env} {H : Hp} (pre : Hp) {H' : Hp} (hp : Pick pre.flatten H H') (h : SP P n c Q D ρ (pre ++ H')) : SP P n c Q D ρ H :=
  SP_heap (H' := pre ++ H') (rest := []) (by unfold Part; unfold Pick at hp; simpa using hp) h
theorem Arr.mle {T : TypeId} {k : Nat} {a : Option Addr} {m c : Nat} {xs : List Value} {s : Seg} (h : Arr T k a m c xs s) : m ≤ c := by
  by_cases hm : 0 < m
  · obtain ⟨_, _, _, h1, _⟩ := h.row hm; exact h1
  · omega
theorem flat_cellE {α : Type} {f : α → List Value} {k : Nat} (hf : ∀ x, (f x).length = k) {l : List α} {sp : List Value} {i b q : Nat} {T : TypeId} {H : Hp} {j : Int} {v : Value} {c : α} (hj : j = i) (hi : i < l.length) (hc : l[i] = c) (hv : (f c)[q]? = some v) : Cell (blk b T (l.flatMap f ++ sp) :: H) b (0 + j.toNat * k + q) v := by
  subst hc; exact flat_cell hf hj hi hv
theorem flat_cellsE {α : Type} {f : α → List Value} {k : Nat} (hf : ∀ x, (f x).length = k) {l : List α} {sp : List Value} {i b : Nat} {T : TypeId} {H : Hp} {j : Int} {c : α} (hj : j = i) (hi : i < l.length) (hc : l[i] = c) : Cells (blk b T (l.flatMap f ++ sp) :: H) b (0 + j.toNat * k) (f c) := by
  subst hc; exact flat_cells hf hj hi
theorem flat_split {α : Type} (f : α → List Value) {l : List α} {i : Nat} (hi : i < l.length) : l.flatMap f = (l.take i).flatMap f ++ f l[i] ++ (l.drop (i + 1)).flatMap f := by
  have h : l.take i ++ l[i] :: l.drop (i + 1) = l := by rw [← List.drop_eq_getElem_cons hi, List.take_append_drop]
  exact (congrArg (List.flatMap f) h).symm.trans (by rw [List.flatMap_append, List.flatMap_cons, List.append_assoc])
theorem flat_cellsQ {α : Type} {f : α → List Value} {k : Nat} (hf : ∀ x, (f x).length = k) {l : List α} {sp : List Value} {i b q : Nat} {T : TypeId} {H : Hp} {j : Int} {vs : List Value} (hj : j = i) (hi : i < l.length) (hv : ((f l[i]).drop q).take vs.length = vs) : Cells (blk b T (l.flatMap f ++ sp) :: H) b (0 + j.toNat * k + q) vs := by
  obtain ⟨c, T', fz, h1, h2⟩ := flat_cells (sp := sp) (b := b) (T := T) (H := H) hf hj hi
  refine ⟨c, T', fz, h1, fun m v hm => ?_⟩
  have hm' : (f l[i])[q + m]? = some v := by
    rw [← hv] at hm
    have hl := (List.getElem?_eq_some_iff.1 hm).1
    rw [List.getElem?_take, List.getElem?_drop] at hm
    split at hm
    · exact hm
    · cases hm
  have := h2 (q + m) v hm'
  rwa [← Nat.add_assoc] at this
theorem SP1_storesF {P : Program} {n : Nat} {Q : Post} {D : Defs} {ρ : Env} {H : Hp} {ty : TypeId} {K : Kont} {pos : String} {af : Array Edge} {g : Option (Nat × Bool)} {α : Type} {f : α → List Value} {k k' : Nat} (hf : ∀ x, (f x).length = k) {l : List α} {sp : List Value} {i b q : Nat} {j : Int} {v : Value} {vs : List Value} {x : α} {T t : TypeId} {ox oy : Operand} {H' : Hp}
    (hj : j = i) (hi : i < l.length) (hx' : f x = (f l[i]).take q ++ vs ++ (f l[i]).drop (q + k')) (hq : q + k' ≤ k) (hz : ∀ w, (sizeOf t).run P w = .ok k' w) (hx : ev ρ ox = some (.pointer (some ⟨b, 0 + j.toNat * k + q, none⟩))) (hy : ev ρ oy = some v) (hv : v.cells = vs.toArray) (hk : vs.length = k') (h1 : vs.all Value.oneCell' = true)
    (hu : Upd H b T (l.flatMap f ++ sp) ((l.set i x).flatMap f ++ sp) H') (kk : K D ρ H') : SP1 P n { dst := none, op := .store t ox oy, type := ty, pos := pos, after := af, guard := g } Q K D ρ H := by
  subst hj hk
  have hl : ((l.take i).flatMap f).length = i * k := by rw [flat_len hf, List.length_take]; rw [show min i l.length = i by omega]
  have e2 : (l.set i x).flatMap f = (l.take i).flatMap f ++ f x ++ (l.drop (i + 1)).flatMap f := by
    rw [List.set_eq_take_append_cons_drop, if_pos hi]; simp
  have hfl := hf l[i]
  have e1 := flat_split f hi
  refine SP1_stores hz hx hy hv rfl (fun u hu => List.all_eq_true.1 h1 u hu) hu ?_ ?_ kk
  · rw [e1]
    simp only [List.length_append, Int.toNat_natCast]
    omega
  · rw [e2, e1, hx', Int.toNat_natCast, Nat.zero_add, ← hl]
    rw [show (l.take i).flatMap f ++ f l[i] ++ (l.drop (i + 1)).flatMap f ++ sp = (l.take i).flatMap f ++ (f l[i] ++ ((l.drop (i + 1)).flatMap f ++ sp)) by simp]
    rw [List.take_length_add_append, Nat.add_assoc, List.drop_length_add_append, List.take_append_of_le_length (by omega), List.drop_append_of_le_length (by omega)]
    simp
theorem flat_upd {α : Type} {f : α → List Value} {k : Nat} (hf : ∀ x, (f x).length = k) {l : List α} {sp : List Value} {i q : Nat} {j : Int} {v : Value} {x : α} (hj : j = i) (hi : i < l.length) (hq : q < k) (hx : f x = (f l[i]).set q v) : (l.flatMap f ++ sp).set (0 + j.toNat * k + q) v = (l.set i x).flatMap f ++ sp := by
  subst hj
  have hl : ((l.take i).flatMap f).length = i * k := by rw [flat_len hf, List.length_take]; rw [show min i l.length = i by omega]
  have e2 : (l.set i x).flatMap f = (l.take i).flatMap f ++ f x ++ (l.drop (i + 1)).flatMap f := by
    rw [List.set_eq_take_append_cons_drop, if_pos hi]; simp
  rw [e2, flat_split f hi, hx, Int.toNat_natCast, Nat.zero_add]
  rw [List.append_assoc, List.append_assoc, List.set_append_right _ _ (by omega), show i * k + q - ((l.take i).flatMap f).length = q by omega, List.set_append_left _ _ (by rw [hf]; omega)]
  simp
theorem flat_ble {α : Type} {f : α → List Value} {k : Nat} (hf : ∀ x, (f x).length = k) {l : List α} {sp : List Value} {i q : Nat} {j : Int} (hj : j = i) (hi : i < l.length) (hq : q < k) : Nat.ble (0 + j.toNat * k + q + 1) (l.flatMap f ++ sp).length = true := by
  subst hj
  apply Nat.ble_eq_true_of_le
  rw [List.length_append, flat_len hf, Int.toNat_natCast]
  have : (i + 1) * k ≤ l.length * k := Nat.mul_le_mul_right _ hi
  have : (i + 1) * k = i * k + k := Nat.succ_mul _ _
  omega
theorem flat_take {α : Type} {f : α → List Value} {k : Nat} (hf : ∀ x, (f x).length = k) {l : List α} {i : Nat} (hi : i ≤ l.length) : (l.flatMap f).take (i * k) = (l.take i).flatMap f := by
  have h : (l.take i).flatMap f ++ (l.drop i).flatMap f = l.flatMap f := by rw [← List.flatMap_append, List.take_append_drop]
  have hl : ((l.take i).flatMap f).length = i * k := by rw [flat_len hf, List.length_take, show min i l.length = i by omega]
  rw [← h, ← hl, List.take_left]
end Go.Sl
