/- The rules of the operations that only look; a function's entry and its results. -/
import Derived.Test.Qxb6500573aGreatDoorSlB
namespace Go.Sl
open Go

section
variable {P : Program} {n : Nat} {Q : Post} {D : Defs} {ρ : Env} {H : Hp} {ty : TypeId}

theorem Yo.mk {op : Op} {v : Value} (h : ∀ D a, Fits n D ρ a → ∀ w, runs P op ty a.eval w = .ok (.value v) w) : Yo P n op ty ρ H v :=
  fun D a _ _ w hf _ _ => h D a hf w

/-- An operation that looks nowhere serves over every heap. -/
theorem y_move {x : Operand} {v : Value} (hx : ev ρ x = some v) : Yo P n (.move x) ty ρ H v :=
  .mk fun _ _ hf _ => by simp [runs, execOp, hf.ev hx]
theorem y_assign {x : Operand} {v : Value} (hx : ev ρ x = some v) : Yo P n (.assign x) ty ρ H v :=
  .mk fun _ _ hf _ => by simp [runs, execOp, hf.ev hx]
theorem y_pick_t {c x y : Operand} {v : Value} (hc : ev ρ c = some (.bool true)) (hx : ev ρ x = some v) : Yo P n (.pick c x y) ty ρ H v :=
  .mk fun _ _ hf _ => by simp [runs, execOp, hf.ev hc, hf.ev hx, asBool]
theorem y_pick_f {c x y : Operand} {v : Value} (hc : ev ρ c = some (.bool false)) (hy : ev ρ y = some v) : Yo P n (.pick c x y) ty ρ H v :=
  .mk fun _ _ hf _ => by simp [runs, execOp, hf.ev hc, hf.ev hy, asBool]
theorem y_nil {x : Operand} {a : Addr} (hx : ev ρ x = some (.pointer (some a))) : Yo P n (.nilCheck x) ty ρ H (.pointer (some a)) :=
  .mk fun _ _ hf _ => by simp [runs, execOp, hf.ev hx]
theorem y_not {x : Operand} {b : Bool} {t : TypeId} (hx : ev ρ x = some (.bool b)) : Yo P n (.unOp .not t x) ty ρ H (.bool (!b)) :=
  .mk fun _ _ hf _ => by simp [runs, execOp, hf.ev hx, Op.unary]
theorem y_not_t {x : Operand} {t : TypeId} (hx : ev ρ x = some (.bool true)) : Yo P n (.unOp .not t x) ty ρ H (.bool false) := y_not hx
theorem y_not_f {x : Operand} {t : TypeId} (hx : ev ρ x = some (.bool false)) : Yo P n (.unOp .not t x) ty ρ H (.bool true) := y_not hx

/-! Addresses. -/
def Fld (P : Program) (s : TypeId) (j off : Nat) : Prop :=
  ∀ (b o : Nat) (w : World), (Instr.fieldAt s (.pointer (some ⟨b, o, none⟩)) j).run P w = .ok (.pointer (some ⟨b, o + off, none⟩)) w
theorem Addr_add (b o k : Nat) : (Addr.mk b o none).add k = ⟨b, o + k, none⟩ := by
  unfold Addr.add; split
  · subst_vars; simp
  · rfl
theorem fld_mk {s : TypeId} {j off : Nat} {fs : Array Field} {f : Field} {z : Nat} (h1 : P.underlying s = some (.struct fs)) (h2 : fs[j]? = some f) (h3 : f.offset = off) (h4 : ∀ w, (sizeOf f.type).run P w = .ok (z + 1) w) : Fld P s j off := by
  intro b o w
  subst h3
  simp [Instr.fieldAt, underlying, h1, h2, Instr.sureAddr, fieldPlace, h4, Addr_add]
theorem y_fa {s : TypeId} {x : Operand} {j off b o : Nat} (hf : Fld P s j off) (hx : ev ρ x = some (.pointer (some ⟨b, o, none⟩))) :
    Yo P n (.fieldAddr s x j) ty ρ H (.pointer (some ⟨b, o + off, none⟩)) :=
  .mk fun _ _ f w => by simp [runs, execOp, f.ev hx, hf b o w]

/-! Memory. -/
theorem y_load {t : TypeId} {x : Operand} {b o : Nat} {v : Value} (ha : ∀ w, (isAgg t).run P w = .ok false w) (hx : ev ρ x = some (.pointer (some ⟨b, o, none⟩))) (hc : Cell H b o v) :
    Yo P n (.load t x) ty ρ H v := by
  intro D a A h w hf ho hs
  have := hc.at ho hs
  simp [runs, execOp, hf.ev hx, Instr.loadAt, Instr.sureAddr, loadVar, ha, this]

theorem run_loadCellsFrom {w : World} {b o : Nat} : ∀ (k i : Nat) (vs : List Value) (acc : Array Value), vs.length = k →
    (∀ j v, vs[j]? = some v → w.cell? ⟨b, o + (i + j), none⟩ = some v) → (loadCellsFrom ⟨b, o, none⟩ i k acc).run P w = .ok (acc ++ vs.toArray) w
  | 0, i, vs, acc, hl, _ => by
    have : vs = [] := List.eq_nil_of_length_eq_zero hl
    subst this; simp [loadCellsFrom]
  | k + 1, i, [], acc, hl, _ => by simp at hl
  | k + 1, i, v :: vs, acc, hl, hc => by
    have h0 := hc 0 v rfl
    simp only [Nat.add_zero] at h0
    have ih := run_loadCellsFrom k (i + 1) vs (acc.push v) (by simpa using hl) (fun j u hj => by
      have := hc (j + 1) u (by simpa using hj)
      rw [show i + 1 + j = i + (j + 1) from by omega]; exact this)
    simp only [loadCellsFrom, Sem.run_bind, Addr_add, run_load, h0, Result.andThen_ok, ih]
    simp

/-- The cells of a row from 'o' on are these. -/
def Cells (H : Hp) (b o : Nat) (vs : List Value) : Prop := ∃ c T fz, Has H b (.cells c T fz) ∧ ∀ j v, vs[j]? = some v → c[o + j]? = some v
theorem Cells.head {b o : Nat} {T : TypeId} {l : List Value} {H : Hp} {vs : List Value} (h : (l.drop o).take vs.length = vs) : Cells (blk b T l :: H) b o vs :=
  ⟨_, _, _, Has.head b T l H, fun j v hj => by
    have hlt := (List.getElem?_eq_some_iff.1 hj).1
    rw [← h, List.getElem?_take_of_lt hlt, List.getElem?_drop] at hj
    simpa using hj⟩
theorem Cells.all {b : Nat} {T : TypeId} (l : List Value) {H : Hp} : Cells (blk b T l :: H) b 0 l := Cells.head (by simp)
theorem Cells.tail {b o : Nat} {s : Seg} {H : Hp} {vs : List Value} (h : Cells H b o vs) : Cells (s :: H) b o vs :=
  let ⟨c, T, fz, h1, h2⟩ := h; ⟨c, T, fz, h1.tail, h2⟩
theorem Cells.at {A w : World} {H : Hp} {b o : Nat} {vs : List Value} (h : Cells H b o vs) {g : Seg} (ow : Own A w g) (hs : ∀ p, p ∈ H.flatten → p ∈ g) :
    ∀ j v, vs[j]? = some v → w.cell? ⟨b, o + j, none⟩ = some v :=
  let ⟨_, _, _, h1, h2⟩ := h; fun _ _ hj => ow.cell (hs _ h1) (h2 _ _ hj)
theorem Cells.cell {H : Hp} {b o : Nat} {vs : List Value} (h : Cells H b o vs) {j : Nat} {v : Value} (hj : vs[j]? = some v) : Cell H b (o + j) v :=
  let ⟨c, T, fz, h1, h2⟩ := h; ⟨c, T, fz, h1, h2 j v hj⟩

theorem y_loads {t : TypeId} {x : Operand} {b o k : Nat} {vs : List Value} (ha : ∀ w, (isAgg t).run P w = .ok true w) (hz : ∀ w, (sizeOf t).run P w = .ok k w) (hx : ev ρ x = some (.pointer (some ⟨b, o, none⟩)))
    (hl : vs.length = k) (hc : Cells H b o vs) : Yo P n (.load t x) ty ρ H (.agg vs.toArray) := by
  intro D a A h w hf ho hs
  have h1 := run_loadCellsFrom (P := P) (b := b) (o := o) k 0 vs #[] hl (fun j v hj => by simpa using hc.at ho hs j v hj)
  simp [runs, execOp, hf.ev hx, Instr.loadAt, Instr.sureAddr, loadVar, ha, hz, loadCells, h1]

/-! Integers. -/
theorem wrap_i64 {x : Int} (h1 : -9223372036854775808 ≤ x) (h2 : x ≤ 9223372036854775807) : IntKind.i64.wrap x = x := by rw [IntKind.wrap_i64]; omega

theorem y_add {t u : TypeId} {x y : Operand} {a b : Int} (hx : ev ρ x = some (.int .i64 a)) (hy : ev ρ y = some (.int .i64 b)) (h : -9223372036854775808 ≤ a + b ∧ a + b ≤ 9223372036854775807) :
    Yo P n (.binOp .add t x y u) ty ρ H (.int .i64 (a + b)) :=
  .mk fun _ _ hf _ => by simp [runs, execOp, hf.ev hx, hf.ev hy, eqGuard, binOp, Op.intArith, wrap_i64 h.1 h.2]
theorem y_sub {t u : TypeId} {x y : Operand} {a b : Int} (hx : ev ρ x = some (.int .i64 a)) (hy : ev ρ y = some (.int .i64 b)) (h : -9223372036854775808 ≤ a - b ∧ a - b ≤ 9223372036854775807) :
    Yo P n (.binOp .sub t x y u) ty ρ H (.int .i64 (a - b)) :=
  .mk fun _ _ hf _ => by simp [runs, execOp, hf.ev hx, hf.ev hy, eqGuard, binOp, Op.intArith, wrap_i64 h.1 h.2]
theorem y_mul {t u : TypeId} {x y : Operand} {a b : Int} (hx : ev ρ x = some (.int .i64 a)) (hy : ev ρ y = some (.int .i64 b)) (h : -9223372036854775808 ≤ a * b ∧ a * b ≤ 9223372036854775807) :
    Yo P n (.binOp .mul t x y u) ty ρ H (.int .i64 (a * b)) :=
  .mk fun _ _ hf _ => by simp [runs, execOp, hf.ev hx, hf.ev hy, eqGuard, binOp, Op.intArith, wrap_i64 h.1 h.2]

theorem y_eql {t u : TypeId} {x y : Operand} {k : IntKind} {a b : Int} (hx : ev ρ x = some (.int k a)) (hy : ev ρ y = some (.int k b)) : Yo P n (.binOp .eql t x y u) ty ρ H (.bool (decide (a = b))) :=
  .mk fun _ _ hf _ => by simp [runs, execOp, hf.ev hx, hf.ev hy, eqGuard, binOp, Op.intCmp]; rfl
theorem y_neq {t u : TypeId} {x y : Operand} {k : IntKind} {a b : Int} (hx : ev ρ x = some (.int k a)) (hy : ev ρ y = some (.int k b)) : Yo P n (.binOp .neq t x y u) ty ρ H (.bool (decide (a ≠ b))) :=
  .mk fun _ _ hf _ => by simp [runs, execOp, hf.ev hx, hf.ev hy, eqGuard, binOp, Op.intCmp]; rfl
theorem y_lss {t u : TypeId} {x y : Operand} {k : IntKind} {a b : Int} (hx : ev ρ x = some (.int k a)) (hy : ev ρ y = some (.int k b)) : Yo P n (.binOp .lss t x y u) ty ρ H (.bool (decide (a < b))) :=
  .mk fun _ _ hf _ => by simp [runs, execOp, hf.ev hx, hf.ev hy, eqGuard, binOp, Op.intCmp]
theorem y_leq {t u : TypeId} {x y : Operand} {k : IntKind} {a b : Int} (hx : ev ρ x = some (.int k a)) (hy : ev ρ y = some (.int k b)) : Yo P n (.binOp .leq t x y u) ty ρ H (.bool (decide (a ≤ b))) :=
  .mk fun _ _ hf _ => by simp [runs, execOp, hf.ev hx, hf.ev hy, eqGuard, binOp, Op.intCmp]
theorem y_gtr {t u : TypeId} {x y : Operand} {k : IntKind} {a b : Int} (hx : ev ρ x = some (.int k a)) (hy : ev ρ y = some (.int k b)) : Yo P n (.binOp .gtr t x y u) ty ρ H (.bool (decide (b < a))) :=
  .mk fun _ _ hf _ => by simp [runs, execOp, hf.ev hx, hf.ev hy, eqGuard, binOp, Op.intCmp]
theorem y_geq {t u : TypeId} {x y : Operand} {k : IntKind} {a b : Int} (hx : ev ρ x = some (.int k a)) (hy : ev ρ y = some (.int k b)) : Yo P n (.binOp .geq t x y u) ty ρ H (.bool (decide (b ≤ a))) :=
  .mk fun _ _ hf _ => by simp [runs, execOp, hf.ev hx, hf.ev hy, eqGuard, binOp, Op.intCmp]
/-- A conversion between integers, to int. -/
theorem y_conv {s t : TypeId} {x : Operand} {k k' : IntKind} {d : TypeDesc} {a b : Int} (hs : P.underlying s = some d) (ht : P.underlying t = some (.int k')) (hx : ev ρ x = some (.int k a)) (hw : k'.wrap a = b) :
    Yo P n (.convert s t x) ty ρ H (.int k' b) :=
  .mk fun _ _ hf _ => by
    simp [runs, execOp, hf.ev hx, convert, underlying, hs, ht, Conv.intToInt, hw]

/-! Results of calls, interfaces, functions. -/
theorem y_ext {x : Operand} {i : Nat} {vs : List Value} {v : Value} (hx : ev ρ x = some (.tuple vs.toArray)) (hv : vs[i]? = some v) : Yo P n (.extract x i) ty ρ H v :=
  .mk fun _ _ hf _ => by simp [runs, execOp, hf.ev hx, Instr.extract, hv]
theorem y_mki {t : TypeId} {x : Operand} {v : Value} {d : TypeDesc} (ht : P.underlying t = some d) (hd : (match d with | .interface _ => true | _ => false) = false) (hx : ev ρ x = some v) : Yo P n (.makeInterface t x) ty ρ H (.iface t v) :=
  .mk fun _ _ hf _ => by
    simp only [runs, execOp, hf.ev hx, Instr.makeInterface, underlying]
    cases d <;> simp_all
theorem y_mkf {fn : Fn} {f c : List Operand} {fs cs : List Value} (hf : evs ρ f = some fs) (hc : evs ρ c = some cs) : Yo P n (.makeFunc fn f.toArray c.toArray) ty ρ H (.func fn fs.toArray cs.toArray) :=
  .mk fun _ _ h _ => by simp [runs, execOp, Instr.makeFunc, h.evs hf, h.evs hc]

/-! Strings (as lists of bytes) and slices. -/
abbrev S (l : List UInt8) : Value := .string ⟨⟨l⟩⟩
abbrev I (n : Int) : Value := .int .i64 n

theorem y_len_s {t : TypeId} {x : Operand} {l : List UInt8} (ht : P.underlying t = some .string) (hx : ev ρ x = some (S l)) :
    Yo P n (.call { callee := .builtin .len, args := #[x], argTypes := #[t] }) ty ρ H (I l.length) :=
  .mk fun _ _ hf _ => by
    simp [runs, execOp, resolve, invoke, builtin, Builtin.len_, underlying, ht, hf.ev hx, goInt]; rfl
theorem y_len_l {t e : TypeId} {x : Operand} {a : Option Addr} {m c : Nat} (ht : P.underlying t = some (.slice e)) (hx : ev ρ x = some (.slice a m c)) :
    Yo P n (.call { callee := .builtin .len, args := #[x], argTypes := #[t] }) ty ρ H (I m) :=
  .mk fun _ _ hf _ => by
    simp [runs, execOp, resolve, invoke, builtin, Builtin.len_, underlying, ht, hf.ev hx, goInt]
theorem y_idx_s {t : TypeId} {x i : Operand} {k : IntKind} {l : List UInt8} {j : Int} {c : UInt8} (ht : P.underlying t = some .string) (hx : ev ρ x = some (S l)) (hi : ev ρ i = some (.int k j)) (h0 : 0 ≤ j)
    (hc : l[j.toNat]? = some c) : Yo P n (.index t x i) ty ρ H (.int .u8 c.toNat) :=
  .mk fun _ _ hf _ => by
    have : (ByteArray.mk ⟨l⟩)[j.toNat]? = some c := by
      obtain ⟨hlt, he⟩ := List.getElem?_eq_some_iff.1 hc
      rw [getElem?_pos (ByteArray.mk ⟨l⟩) j.toNat (by simpa [ByteArray.size] using hlt)]
      simpa [ByteArray.getElem_eq_getElem_data] using he
    simp [runs, execOp, Instr.index, asIntOf, underlying, ht, hf.ev hx, hf.ev hi, h0, this]
theorem y_ia {t e : TypeId} {x i : Operand} {k : IntKind} {b o m c z : Nat} {j : Int} (ht : P.underlying t = some (.slice e)) (hz : ∀ w, (sizeOf e).run P w = .ok z w) (hx : ev ρ x = some (.slice (some ⟨b, o, none⟩) m c))
    (hi : ev ρ i = some (.int k j)) (h0 : 0 ≤ j ∧ j < m) : Yo P n (.indexAddr t x i) ty ρ H (.pointer (some ⟨b, o + j.toNat * z, none⟩)) :=
  .mk fun _ _ hf w => by
    simp [runs, execOp, Instr.indexAt, asIntOf, underlying, ht, hf.ev hx, hf.ev hi, h0, hz, Addr_add]
theorem y_ia_arr {t e : TypeId} {x i : Operand} {k : IntKind} {b o m z : Nat} {j : Int} (ht : P.underlying t = some (.array m e)) (hz : ∀ w, (sizeOf e).run P w = .ok z w) (hx : ev ρ x = some (.pointer (some ⟨b, o, none⟩)))
    (hi : ev ρ i = some (.int k j)) (h0 : 0 ≤ j ∧ j < m) : Yo P n (.indexAddr t x i) ty ρ H (.pointer (some ⟨b, o + j.toNat * z, none⟩)) :=
  .mk fun _ _ hf w => by
    simp [runs, execOp, Instr.indexAt, asIntOf, underlying, ht, hf.ev hx, hf.ev hi, h0, hz, Addr_add, Instr.sureAddr]
theorem y_cat {t u : TypeId} {x y : Operand} {l m : List UInt8} (hx : ev ρ x = some (S l)) (hy : ev ρ y = some (S m)) (h : l.length + m.length ≤ 9223372036854775807) : Yo P n (.binOp .add t x y u) ty ρ H (S (l ++ m)) :=
  .mk fun _ _ hf _ => by
    have e : (ByteArray.mk ⟨l⟩ ++ ByteArray.mk ⟨m⟩ : ByteArray) = ByteArray.mk ⟨l ++ m⟩ := by
      apply ByteArray.ext; simp
    have e2 : (ByteArray.mk ⟨l⟩).size + (ByteArray.mk ⟨m⟩).size = l.length + m.length := rfl
    simp only [runs, execOp, hf.ev hx, hf.ev hy, eqGuard, binOp, Op.stringOp, e, e2]
    simp
    omega
theorem y_seq {t u : TypeId} {x y : Operand} {l m : List UInt8} (hx : ev ρ x = some (S l)) (hy : ev ρ y = some (S m)) : Yo P n (.binOp .eql t x y u) ty ρ H (.bool (decide (l = m))) :=
  .mk fun _ _ hf _ => by
    simp only [runs, execOp, hf.ev hx, hf.ev hy, eqGuard, binOp, Op.stringOp, ByteArray.toList_eq]
    by_cases e : l = m <;> simp [e]
theorem y_sne {t u : TypeId} {x y : Operand} {l m : List UInt8} (hx : ev ρ x = some (S l)) (hy : ev ρ y = some (S m)) : Yo P n (.binOp .neq t x y u) ty ρ H (.bool (decide (l ≠ m))) :=
  .mk fun _ _ hf _ => by
    simp only [runs, execOp, hf.ev hx, hf.ev hy, eqGuard, binOp, Op.stringOp, ByteArray.toList_eq]
    by_cases e : l = m <;> simp [e]
end
end Go.Sl
