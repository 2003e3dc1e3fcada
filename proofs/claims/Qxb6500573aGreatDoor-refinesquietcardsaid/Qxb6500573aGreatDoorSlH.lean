/- Opening and closing of whole segments; more operations on slices. -/
import Derived.Test.Qxb6500573aGreatDoorSlG
namespace Go.Sl
open Go

section
variable {P : Program} {n : Nat} {Q : Post} {D : Defs} {ρ : Env} {H : Hp} {ops : Array Oper} {ty : TypeId} {K : Kont} {d : Nat} {pos : String} {af : Array Edge} {g : Option (Nat × Bool)} {Hs : Hp}

theorem Spec_flat {f : FuncId} {args : List Value} {pre : Hp} {R : Ending → Hp → Prop} (h : Spec P f args (pre ++ H) R) : Spec P f args (pre.flatten :: H) R :=
  fun A F w ho => h A F w (by simpa using ho)
theorem SP_flat {c : Code} {pre : Hp} (h : SP P n c Q D ρ (pre ++ H)) : SP P n c Q D ρ (pre.flatten :: H) :=
  fun A F a w hf ho => h A F a w hf (by simpa using ho)
theorem SPL_flat {l : List Oper} {pre : Hp} (h : SPL P n ops l Q D ρ (pre ++ H)) : SPL P n ops l Q D ρ (pre.flatten :: H) :=
  fun A F a w hf ho => h A F a w hf (by simpa using ho)
theorem Part.flat {pre r rest : Hp} (h : Part H (pre ++ r) rest) : Part H (pre.flatten :: r) rest := by
  unfold Part at *
  simpa using h
/-- The segments, in another order or fewer. -/
theorem SP_part {c : Code} {H' rest : Hp} (hh : Part H H' rest) (h : SP P n c Q D ρ H') : SP P n c Q D ρ H := SP_heap hh h
theorem SPL_part {l : List Oper} {H' rest : Hp} (hh : Part H H' rest) (h : SPL P n ops l Q D ρ H') : SPL P n ops l Q D ρ H :=
  fun A F a w hf ho => h A F a w hf (hh.drop ho)
theorem SPL_env {l : List Oper} {ρ' : Env} (hs : Sub ρ' ρ) (h : SPL P n ops l Q D ρ' H) : SPL P n ops l Q D ρ H :=
  fun A F a w hf ho => h A F a w (hf.sub hs) ho
/-- The segments of a picked one, laid open. -/
theorem SP_open {c : Code} {pre H' : Hp} (hp : Pick pre.flatten H H') (h : SP P n c Q D ρ (pre ++ H')) : SP P n c Q D ρ H :=
  fun A F a w hf ho => h A F a w hf (by
    have := ho.perm (List.Perm.append_right F hp)
    simpa using this)
theorem SPL_open {l : List Oper} {pre H' : Hp} (hp : Pick pre.flatten H H') (h : SPL P n ops l Q D ρ (pre ++ H')) : SPL P n ops l Q D ρ H :=
  fun A F a w hf ho => h A F a w hf (by
    have := ho.perm (List.Perm.append_right F hp)
    simpa using this)

theorem getN {α : Type} {l : List α} {k : Nat} (h : k < l.length) : l[((k : Nat) : Int).toNat]? = some l[k] := by simp [h]

/-- '[]T{v}'. -/
theorem SP1_slice1 {t e : TypeId} {x : Operand} {k bytes : Nat} {z l : List Value} {v : Value} (el : El P t e k bytes z) (hx : ev ρ x = some v) (hv : v.cells = l.toArray) (hl : l.length = k) (hk : Nat.ble k 16777216 = true) (hd : Nat.ble (d + 1) n = true)
    (kk : ∀ b, K D ((d, .slice (some ⟨b, 0, none⟩) 1 1) :: ρ) (blk b e l :: H)) : SP1 P n { dst := some d, op := .buildSlice t 1 #[(0, x)], type := ty, pos := pos, after := af, guard := g } Q K D ρ H :=
  SP1_new (x := .cells l.toArray e (0, 0)) (v := fun b => .slice (some ⟨b, 0, none⟩) 1 1) hd (fun a w hf => by
    obtain ⟨i, z0, hi, hik, _, hz, hzc⟩ := el.info
    have hk' : k ≤ 16777216 := Nat.le_of_ble_eq_true hk
    have hk0 := el.kpos
    have hzs : z0.cells.size = k := by rw [hzc]; simpa using el.zl
    have hfill : ∀ (arr : Array Value), arr.size = k → Instr.fill (fun i => some (i * k, k)) arr [(0, v)] = some l.toArray := by
      intro arr harr
      simp only [Instr.fill, Nat.zero_mul, hv]
      rw [if_neg (by simp [hl, harr])]
      congr 1
      have key : ∀ (l : List Value) (i : Nat) (arr : Array Value), i + l.length = arr.size → (l.zipIdx i).foldl (fun cs (p : Value × Nat) => cs.setIfInBounds (0 + p.2) p.1) arr = (arr.toList.take i ++ l).toArray := by
        intro l
        induction l with
        | nil => intro i arr h; simp at h; simp [h]; rw [← Array.length_toList, List.take_length]
        | cons x l ih =>
          intro i arr h
          simp only [List.zipIdx_cons, List.foldl_cons, Nat.zero_add]
          have := ih (i + 1) (arr.setIfInBounds i x) (by simp at h ⊢; omega)
          simp only [Nat.zero_add] at this
          rw [this]
          simp only [List.length_cons] at h
          congr 1
          rw [Array.toList_setIfInBounds, List.take_succ_eq_append_getElem (by simp; omega)]
          simp [List.take_set_of_le]
      have := key l 0 arr (by simp [hl, harr])
      simp only [List.take_zero, List.nil_append] at this
      refine Eq.trans ?_ this
      rw [← Array.foldl_toList]
      simp only [Array.toList_zipIdx]
    have := hfill ((Array.range k).map (z0.cells[· % z0.cells.size]!)) (by simp)
    have hk1 : ¬ (16777216 < k) := by omega
    have hk2 : k ≠ 0 := by omega
    simp [runs, execOp, Instr.buildSlice, run_underlying el.sl, el.size, hk1, hk2, zeroValue, typeInfo, hi, hz, hf.ev hx, this, newRow]) kk

theorem replicate_cells (z : List Value) (k m : Nat) (h : z.length = k) : ((Array.range (m * k)).map (z.toArray[· % z.toArray.size]!)) = (List.replicate m z).flatten.toArray := by
  apply Array.ext'
  simp only [Array.toList_map, Array.toList_range, List.size_toArray]
  subst h
  induction m with
  | zero => simp
  | succ m ih =>
    rw [Nat.add_mul, Nat.one_mul, List.range_add, List.map_append, ih, List.replicate_succ', List.flatten_append]
    congr 1
    rcases Nat.eq_zero_or_pos z.length with h0 | h0
    · have : z = [] := List.eq_nil_of_length_eq_zero h0
      subst this; simp
    · apply List.ext_getElem
      · simp
      · intro i h1 h2
        simp at h1
        simp [Nat.add_mod, Nat.mod_eq_of_lt h1, h1]

/-- 'make([]T, m)'. -/
theorem SP1_make {t e : TypeId} {x : Operand} {k bytes : Nat} {z : List Value} {m : Nat} (el : El P t e k bytes z) (hx : ev ρ x = some (I m)) (hb : m * (bytes + 1) ≤ 140737488355328) (hd : Nat.ble (d + 1) n = true)
    (kk : ∀ b, K D ((d, .slice (some ⟨b, 0, none⟩) m m) :: ρ) (blk b e (List.replicate m z).flatten :: H)) : SP1 P n { dst := some d, op := .makeSlice t x x, type := ty, pos := pos, after := af, guard := g } Q K D ρ H :=
  SP1_new (x := .cells (List.replicate m z).flatten.toArray e (0, 0)) (v := fun b => .slice (some ⟨b, 0, none⟩) m m) hd (fun a w hf => by
    obtain ⟨i, z0, hi, hik, hby, hz, hzc⟩ := el.info
    have hbm : m ≤ 140737488355328 := by
      have : m * 1 ≤ m * (bytes + 1) := Nat.mul_le_mul_left _ (by omega)
      omega
    have hbb : bytes * m ≤ 140737488355328 := by
      have : m * bytes ≤ m * (bytes + 1) := Nat.mul_le_mul_left _ (by omega)
      rw [Nat.mul_comm]; omega
    have hw : IntKind.i64.wrap (m : Int) = m := wrap_i64 (by omega) (by omega)
    have hrep := replicate_cells z k m el.zl
    have hbi : ((bytes : Int) * (m : Int) ≤ 281474976710656) := by
      have : ((bytes * m : Nat) : Int) ≤ 281474976710656 := by omega
      simpa using this
    by_cases hm : m = 0
    · subst hm
      have hw0 : IntKind.i64.wrap 0 = 0 := by simpa using hw
      simp [runs, execOp, Instr.makeSlice, run_underlying el.sl, hf.ev hx, asInt, asIntOf, typeInfo, hi, hw0, newRow, sizeOf]
      congr 2
      apply Array.eq_empty_of_size_eq_zero; simp
    · have hk0 := el.kpos
      have hmk : m * k ≠ 0 := Nat.mul_ne_zero hm (by omega)
      have hzv : ∀ w : World, (zeroValue e).run P w = .ok z0 w := fun w => by simp [zeroValue, typeInfo, hi, hz]
      simp [runs, execOp, Instr.makeSlice, underlying, el.sl, hf.ev hx, asInt, asIntOf, typeInfo, hi, hby, hw, newRow, el.size, hmk, hzv, hzc, hbi]
      rw [if_neg (by omega)]
      have hrep' : Array.map (fun x => z[x % z.length]?.getD default) (Array.range (m * k)) = (List.replicate m z).flatten.toArray := by simpa using hrep
      rw [hrep']) kk
end
end Go.Sl
