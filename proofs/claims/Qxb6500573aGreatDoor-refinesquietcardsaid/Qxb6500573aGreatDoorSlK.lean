/- Arithmetic of every kind; arrays sliced; bytes to strings; pointers compared; facts that separation gives. -/
import Derived.Test.Qxb6500573aGreatDoorSlJ
import Derived.LaidEql
import Derived.WideLaws
namespace Go.Sl
open Go

section
variable {P : Program} {n : Nat} {Q : Post} {D : Defs} {ρ : Env} {H : Hp} {ops : Array Oper} {ty : TypeId} {K : Kont} {d : Nat} {pos : String} {af : Array Edge} {g : Option (Nat × Bool)} {Hs : Hp}

def bitI (op : BinOp) (k : IntKind) (x y : Int) : Int :=
  match op with
  | .and => k.wrap (BitVec.ofInt k.bits x &&& BitVec.ofInt k.bits y).toNat
  | .or => k.wrap (BitVec.ofInt k.bits x ||| BitVec.ofInt k.bits y).toNat
  | .xor => k.wrap (BitVec.ofInt k.bits x ^^^ BitVec.ofInt k.bits y).toNat
  | .andNot => k.wrap (BitVec.ofInt k.bits x &&& ~~~ BitVec.ofInt k.bits y).toNat
  | _ => 0
theorem y_and {t u : TypeId} {x y : Operand} {k : IntKind} {a b c : Int} (hx : ev ρ x = some (.int k a)) (hy : ev ρ y = some (.int k b)) (h : bitI .and k a b = c) : Yo P n (.binOp .and t x y u) ty ρ H (.int k c) := by
  subst h; exact .mk fun _ _ hf _ => by simp [runs, execOp, hf.ev hx, hf.ev hy, eqGuard, binOp, Op.intBits, bitI]
theorem y_or {t u : TypeId} {x y : Operand} {k : IntKind} {a b c : Int} (hx : ev ρ x = some (.int k a)) (hy : ev ρ y = some (.int k b)) (h : bitI .or k a b = c) : Yo P n (.binOp .or t x y u) ty ρ H (.int k c) := by
  subst h; exact .mk fun _ _ hf _ => by simp [runs, execOp, hf.ev hx, hf.ev hy, eqGuard, binOp, Op.intBits, bitI]
theorem y_xor {t u : TypeId} {x y : Operand} {k : IntKind} {a b c : Int} (hx : ev ρ x = some (.int k a)) (hy : ev ρ y = some (.int k b)) (h : bitI .xor k a b = c) : Yo P n (.binOp .xor t x y u) ty ρ H (.int k c) := by
  subst h; exact .mk fun _ _ hf _ => by simp [runs, execOp, hf.ev hx, hf.ev hy, eqGuard, binOp, Op.intBits, bitI]
theorem y_andNot {t u : TypeId} {x y : Operand} {k : IntKind} {a b c : Int} (hx : ev ρ x = some (.int k a)) (hy : ev ρ y = some (.int k b)) (h : bitI .andNot k a b = c) : Yo P n (.binOp .andNot t x y u) ty ρ H (.int k c) := by
  subst h; exact .mk fun _ _ hf _ => by simp [runs, execOp, hf.ev hx, hf.ev hy, eqGuard, binOp, Op.intBits, bitI]
theorem y_addw {t u : TypeId} {x y : Operand} {k : IntKind} {a b c : Int} (hx : ev ρ x = some (.int k a)) (hy : ev ρ y = some (.int k b)) (h : k.wrap (a + b) = c) : Yo P n (.binOp .add t x y u) ty ρ H (.int k c) := by
  subst h; exact .mk fun _ _ hf _ => by simp [runs, execOp, hf.ev hx, hf.ev hy, eqGuard, binOp, Op.intArith]
theorem y_subw {t u : TypeId} {x y : Operand} {k : IntKind} {a b c : Int} (hx : ev ρ x = some (.int k a)) (hy : ev ρ y = some (.int k b)) (h : k.wrap (a - b) = c) : Yo P n (.binOp .sub t x y u) ty ρ H (.int k c) := by
  subst h; exact .mk fun _ _ hf _ => by simp [runs, execOp, hf.ev hx, hf.ev hy, eqGuard, binOp, Op.intArith]
theorem y_mulw {t u : TypeId} {x y : Operand} {k : IntKind} {a b c : Int} (hx : ev ρ x = some (.int k a)) (hy : ev ρ y = some (.int k b)) (h : k.wrap (a * b) = c) : Yo P n (.binOp .mul t x y u) ty ρ H (.int k c) := by
  subst h; exact .mk fun _ _ hf _ => by simp [runs, execOp, hf.ev hx, hf.ev hy, eqGuard, binOp, Op.intArith]
theorem y_quo {t u : TypeId} {x y : Operand} {k : IntKind} {a b c : Int} (hx : ev ρ x = some (.int k a)) (hy : ev ρ y = some (.int k b)) (hb : b ≠ 0) (h : k.wrap (a.tdiv b) = c) : Yo P n (.binOp .quo t x y u) ty ρ H (.int k c) := by
  subst h; exact .mk fun _ _ hf _ => by simp [runs, execOp, hf.ev hx, hf.ev hy, eqGuard, binOp, Op.intDiv, hb]
theorem y_rem {t u : TypeId} {x y : Operand} {k : IntKind} {a b c : Int} (hx : ev ρ x = some (.int k a)) (hy : ev ρ y = some (.int k b)) (hb : b ≠ 0) (h : a.tmod b = c) : Yo P n (.binOp .rem t x y u) ty ρ H (.int k c) := by
  subst h; exact .mk fun _ _ hf _ => by simp [runs, execOp, hf.ev hx, hf.ev hy, eqGuard, binOp, Op.intDiv, hb]
theorem y_shl {t u : TypeId} {x y : Operand} {k j : IntKind} {a b c : Int} (hx : ev ρ x = some (.int k a)) (hy : ev ρ y = some (.int j b)) (hb : 0 ≤ b) (h : k.wrap (a * 2 ^ (min b.toNat k.bits)) = c) : Yo P n (.binOp .shl t x y u) ty ρ H (.int k c) := by
  subst h; exact .mk fun _ _ hf _ => by
    have : ¬ b < 0 := by omega
    simp [runs, execOp, hf.ev hx, hf.ev hy, eqGuard, binOp, Op.shift, this]
theorem y_shr {t u : TypeId} {x y : Operand} {k j : IntKind} {a b c : Int} (hx : ev ρ x = some (.int k a)) (hy : ev ρ y = some (.int j b)) (hb : 0 ≤ b) (h : a.fdiv (2 ^ (min b.toNat k.bits)) = c) : Yo P n (.binOp .shr t x y u) ty ρ H (.int k c) := by
  subst h; exact .mk fun _ _ hf _ => by
    have : ¬ b < 0 := by omega
    simp [runs, execOp, hf.ev hx, hf.ev hy, eqGuard, binOp, Op.shift, this]
theorem y_neg {t : TypeId} {x : Operand} {k : IntKind} {a c : Int} (hx : ev ρ x = some (.int k a)) (h : k.wrap (0 - a) = c) : Yo P n (.unOp .neg t x) ty ρ H (.int k c) := by
  subst h; exact .mk fun _ _ hf _ => by simp [runs, execOp, hf.ev hx, Op.unary, Op.intArith]
theorem y_com {t : TypeId} {x : Operand} {k : IntKind} {a c : Int} (hx : ev ρ x = some (.int k a)) (h : bitI .xor k (if k.signed then -1 else k.max) a = c) : Yo P n (.unOp .xor t x) ty ρ H (.int k c) := by
  subst h; exact .mk fun _ _ hf _ => by simp [runs, execOp, hf.ev hx, Op.unary, Op.intBits, bitI]
theorem y_min {x y : Operand} {k : IntKind} {a b : Int} {at_ : Array TypeId} (hx : ev ρ x = some (.int k a)) (hy : ev ρ y = some (.int k b)) : Yo P n (.call { callee := .builtin .min, args := #[x, y], argTypes := at_ }) ty ρ H (.int k (if b < a then b else a)) :=
  .mk fun _ _ hf _ => by simp [runs, execOp, resolve, invoke, builtin, Builtin.min_, Builtin.min2, hf.ev hx, hf.ev hy]
theorem y_max {x y : Operand} {k : IntKind} {a b : Int} {at_ : Array TypeId} (hx : ev ρ x = some (.int k a)) (hy : ev ρ y = some (.int k b)) : Yo P n (.call { callee := .builtin .max, args := #[x, y], argTypes := at_ }) ty ρ H (.int k (if a < b then b else a)) :=
  .mk fun _ _ hf _ => by simp [runs, execOp, resolve, invoke, builtin, Builtin.max_, Builtin.max2, hf.ev hx, hf.ev hy]

/-! Arrays and windows. -/
theorem y_arr_hi {t e : TypeId} {x hi : Operand} {kd : IntKind} {b o m z : Nat} {j : Int} (ht : P.underlying t = some (.array m e)) (hz : ∀ w, (sizeOf e).run P w = .ok z w) (hx : ev ρ x = some (.pointer (some ⟨b, o, none⟩))) (hh : ev ρ hi = some (.int kd j))
    (h : 0 ≤ j ∧ j ≤ m) : Yo P n (.slice t x none (some hi) none) ty ρ H (.slice (some ⟨b, o, none⟩) j.toNat m) :=
  .mk fun _ _ hf w => by
    have hb : ∀ code, (Instr.sliceBound (.int kd j) m code).run P w = .ok j.toNat w := fun code => run_sliceBound w kd j m code h.1 h.2
    simp [runs, execOp, Instr.sliceAt, Instr.sliceBounds, run_underlying ht, hf.ev hx, hf.ev hh, hb, hz, Instr.sureAddr, Addr_add]
theorem y_arr_lo {t e : TypeId} {x lo : Operand} {kd : IntKind} {b o m z : Nat} {j : Int} (ht : P.underlying t = some (.array m e)) (hz : ∀ w, (sizeOf e).run P w = .ok z w) (hx : ev ρ x = some (.pointer (some ⟨b, o, none⟩))) (hh : ev ρ lo = some (.int kd j))
    (h : 0 ≤ j ∧ j ≤ m) : Yo P n (.slice t x (some lo) none none) ty ρ H (.slice (some (if m = j.toNat then ⟨b, o, none⟩ else ⟨b, o + j.toNat * z, none⟩)) (m - j.toNat) (m - j.toNat)) :=
  .mk fun _ _ hf w => by
    have hb : ∀ code, (Instr.sliceBound (.int kd j) m code).run P w = .ok j.toNat w := fun code => run_sliceBound w kd j m code h.1 h.2
    simp [runs, execOp, Instr.sliceAt, Instr.sliceBounds, run_underlying ht, hf.ev hx, hf.ev hh, hb, hz, Instr.sureAddr, Addr_add]
theorem y_arr_lh {t e : TypeId} {x lo hi : Operand} {kd ke : IntKind} {b o m z : Nat} {i j : Int} (ht : P.underlying t = some (.array m e)) (hz : ∀ w, (sizeOf e).run P w = .ok z w) (hx : ev ρ x = some (.pointer (some ⟨b, o, none⟩))) (hl : ev ρ lo = some (.int kd i)) (hh : ev ρ hi = some (.int ke j))
    (h : 0 ≤ i ∧ i ≤ j ∧ j ≤ m ∧ i < m) : Yo P n (.slice t x (some lo) (some hi) none) ty ρ H (.slice (some ⟨b, o + i.toNat * z, none⟩) (j.toNat - i.toNat) (m - i.toNat)) :=
  .mk fun _ _ hf w => by
    have hb1 : ∀ code, (Instr.sliceBound (.int ke j) m code).run P w = .ok j.toNat w := fun code => run_sliceBound w ke j m code (by omega) (by omega)
    have hb2 : ∀ code, (Instr.sliceBound (.int kd i) j.toNat code).run P w = .ok i.toNat w := fun code => run_sliceBound w kd i j.toNat code (by omega) (by omega)
    have hne : m ≠ i.toNat := by omega
    simp [runs, execOp, Instr.sliceAt, Instr.sliceBounds, run_underlying ht, hf.ev hx, hf.ev hl, hf.ev hh, hb1, hb2, hz, Instr.sureAddr, hne, Addr_add]
/-- 's[i:]' of a slice. -/
theorem y_from {t e : TypeId} {x lo : Operand} {kd : IntKind} {b o m c z : Nat} {j : Int} (ht : P.underlying t = some (.slice e)) (hz : ∀ w, (sizeOf e).run P w = .ok z w) (hx : ev ρ x = some (.slice (some ⟨b, o, none⟩) m c)) (hh : ev ρ lo = some (.int kd j))
    (h : 0 ≤ j ∧ j ≤ m) : Yo P n (.slice t x (some lo) none none) ty ρ H (.slice (some (if c = j.toNat then ⟨b, o, none⟩ else ⟨b, o + j.toNat * z, none⟩)) (m - j.toNat) (c - j.toNat)) :=
  .mk fun _ _ hf w => by
    have hb : ∀ code, (Instr.sliceBound (.int kd j) m code).run P w = .ok j.toNat w := fun code => run_sliceBound w kd j m code h.1 h.2
    simp [runs, execOp, Instr.sliceAt, Instr.slice, Instr.sliceBounds, run_underlying ht, hf.ev hx, hf.ev hh, hb, hz, Addr_add]
    split <;> rfl
theorem y_arr_lo_ne {t e : TypeId} {x lo : Operand} {kd : IntKind} {b o m z : Nat} {j : Int} (ht : P.underlying t = some (.array m e)) (hz : ∀ w, (sizeOf e).run P w = .ok z w) (hx : ev ρ x = some (.pointer (some ⟨b, o, none⟩))) (hh : ev ρ lo = some (.int kd j))
    (h : 0 ≤ j ∧ j < m) : Yo P n (.slice t x (some lo) none none) ty ρ H (.slice (some ⟨b, o + j.toNat * z, none⟩) (m - j.toNat) (m - j.toNat)) := by
  have := y_arr_lo (P := P) (n := n) (H := H) (ty := ty) ht hz hx hh (by omega)
  rwa [if_neg (by omega)] at this
theorem y_from_lt {t e : TypeId} {x lo : Operand} {kd : IntKind} {b o m c z : Nat} {j : Int} (ht : P.underlying t = some (.slice e)) (hz : ∀ w, (sizeOf e).run P w = .ok z w) (hx : ev ρ x = some (.slice (some ⟨b, o, none⟩) m c)) (hh : ev ρ lo = some (.int kd j))
    (h : 0 ≤ j ∧ j ≤ m ∧ j < c) : Yo P n (.slice t x (some lo) none none) ty ρ H (.slice (some ⟨b, o + j.toNat * z, none⟩) (m - j.toNat) (c - j.toNat)) := by
  have := y_from (P := P) (n := n) (H := H) (ty := ty) ht hz hx hh (by omega)
  rwa [if_neg (by omega)] at this
theorem y_toArr {t e : TypeId} {x : Operand} {a : Option Addr} {m len c : Nat} (ht : P.underlying t = some (.array m e)) (hx : ev ρ x = some (.slice a len c)) (h : m ≤ len) : Yo P n (.sliceToArrayPointer t x) ty ρ H (.pointer a) :=
  .mk fun _ _ hf w => by
    have : ¬ len < m := by omega
    simp [runs, execOp, Instr.arrayAt, run_underlying ht, hf.ev hx, this]
/-- 's[i:i+1]' of a string. -/
theorem y_str_lh {t : TypeId} {x lo hi : Operand} {kd ke : IntKind} {l : List UInt8} {i j : Int} (ht : P.underlying t = some .string) (hx : ev ρ x = some (S l)) (hl : ev ρ lo = some (.int kd i)) (hh : ev ρ hi = some (.int ke j))
    (h : 0 ≤ i ∧ i ≤ j ∧ j ≤ l.length) : Yo P n (.slice t x (some lo) (some hi) none) ty ρ H (S ((l.take j.toNat).drop i.toNat)) :=
  .mk fun _ _ hf w => by
    have hb1 : ∀ code, (Instr.sliceBound (.int ke j) l.length code).run P w = .ok j.toNat w := fun code => run_sliceBound w ke j l.length code (by omega) (by omega)
    have hb2 : ∀ code, (Instr.sliceBound (.int kd i) j.toNat code).run P w = .ok i.toNat w := fun code => run_sliceBound w kd i j.toNat code (by omega) (by omega)
    have e1 : (ByteArray.mk ⟨l⟩).size = l.length := rfl
    have e2 : (ByteArray.mk ⟨l⟩).extract i.toNat j.toNat = ⟨⟨(l.take j.toNat).drop i.toNat⟩⟩ := by
      apply ByteArray.ext
      rw [ByteArray.data_extract]
      apply Array.ext'
      simp [List.drop_take]
    simp [runs, execOp, Instr.sliceAt, Instr.slice, Instr.sliceBounds, run_underlying ht, hf.ev hx, hf.ev hl, hf.ev hh, -ByteArray.size_data]
    rw [show (ByteArray.mk ⟨l⟩).size = l.length from rfl, hb1]
    simp only [Result.andThen_ok, hb2, e2]

/-- '[]byte' to string. -/
theorem y_b2s {s t e : TypeId} {x : Operand} {b o m c : Nat} {l : List UInt8} (hs : P.underlying s = some (.slice e)) (he : P.underlying e = some (.int .u8)) (ht : P.underlying t = some .string) (hx : ev ρ x = some (.slice (some ⟨b, o, none⟩) m c))
    (hc : Cells H b o (bytesV l)) (hl : l.length = m) : Yo P n (.convert s t x) ty ρ H (S l) := by
  intro D a A h w hf ho hss
  have h1 := run_loadCellsFrom (P := P) (w := w) (b := b) (o := o) m 0 (bytesV l) #[] (by simp [bytesV, hl]) (fun j v hj => by simpa using hc.at ho hss j v hj)
  have h2 : (loadCells ⟨b, o, none⟩ m).run P w = .ok ((l.map fun c : UInt8 => ((c.toNat : Nat) : Int)).map (Value.int .u8)).toArray w := by
    unfold loadCells
    rw [h1]
    simp [bytesV, Function.comp_def]
  have h3 := run_convert_bytes_string (P := P) w s t e (some ⟨b, o, none⟩) m c hs he ht
  rw [run_bytesToString w _ m c _ h2, foldl_push_bytes] at h3
  simp only [runs, execOp, hf.ev hx, Sem.run_bind, h3, Result.andThen_ok, Sem.run_pure]
  congr 2
  simp [Function.comp_def, ByteArray.empty, ByteArray.emptyWithCapacity]
  rfl

theorem SPL_ne {l : List Oper} {b c : Nat} {T U : TypeId} {xs ys : List Value} {rest : Hp} (hp : Part H [blk b T xs, blk c U ys] rest) (h : b ≠ c → SPL P n ops l Q D ρ H) : SPL P n ops l Q D ρ H :=
  fun A F a w hf ho => h (by
    have := (hp.drop ho).left.nd
    simp [blk] at this
    exact this) A F a w hf ho
theorem SP_ne {cd : Code} {b c : Nat} {T U : TypeId} {xs ys : List Value} {rest : Hp} (hp : Part H [blk b T xs, blk c U ys] rest) (h : b ≠ c → SP P n cd Q D ρ H) : SP P n cd Q D ρ H :=
  fun A F a w hf ho => h (by
    have := (hp.drop ho).left.nd
    simp [blk] at this
    exact this) A F a w hf ho

/-! Pointers against nil and each other. -/
theorem pointee_of {t e : TypeId} (ht : P.underlying t = some (.pointer e)) : P.underlying t = some (.pointer (P.pointee t)) := by
  rw [ht]; simp [Program.pointee, ht]
theorem y_pne_nil {t e u : TypeId} {x y : Operand} {a : Option Addr} (ht : P.underlying t = some (.pointer e)) (hx : ev ρ x = some (.pointer a)) (hy : ev ρ y = some (.pointer none)) : Yo P n (.binOp .neq t x y u) ty ρ H (.bool (decide (a ≠ none))) :=
  .mk fun _ _ hf w => by
    simp only [runs, execOp, hf.ev hx, hf.ev hy, eqGuard, Sem.run_bind]
    have h1 := run_neq_pointer_nil w t a (pointee_of ht)
    cases a <;> simp [h1]
theorem y_peq_nil {t e u : TypeId} {x y : Operand} {a : Option Addr} (ht : P.underlying t = some (.pointer e)) (hx : ev ρ x = some (.pointer a)) (hy : ev ρ y = some (.pointer none)) : Yo P n (.binOp .eql t x y u) ty ρ H (.bool (decide (a = none))) :=
  .mk fun _ _ hf w => by
    simp only [runs, execOp, hf.ev hx, hf.ev hy, eqGuard, Sem.run_bind]
    have h1 := run_eql_pointer_nil w t a (pointee_of ht)
    cases a <;> simp [h1]
/-- Two pointers to rows that lie apart. -/
theorem y_peq_ne {t e u : TypeId} {x y : Operand} {b c z : Nat} {T U : TypeId} {xs ys : List Value} (ht : P.underlying t = some (.pointer e)) (hz : ∀ w, (sizeOf e).run P w = .ok (z + 1) w) (hx : ev ρ x = some (.pointer (some ⟨b, 0, none⟩))) (hy : ev ρ y = some (.pointer (some ⟨c, 0, none⟩)))
    (hne : b ≠ c) (hb : Has H b (.cells xs.toArray T (0, 0))) (hc : Has H c (.cells ys.toArray U (0, 0))) : Yo P n (.binOp .eql t x y u) ty ρ H (.bool false) := by
  intro D a A h w hf ho hs
  have h1 := ho.has _ (hs _ hb)
  have h2 := ho.has _ (hs _ hc)
  simp only at h1 h2
  have hs' := run_sameAddr_other (P := P) w (a := ⟨b, 0, none⟩) (b := ⟨c, 0, none⟩) (by intro e; exact hne (by simpa using congrArg Addr.block e)) h1 h2
  have he : ∀ d : Nat, (Op.equalIn (d + 1) t (.pointer (some ⟨b, 0, none⟩)) (.pointer (some ⟨c, 0, none⟩))).run P w = .ok false w := fun d => by
    simp [Op.equalIn, run_underlying ht, hz, hs']
  have he' : (Op.equal t (.pointer (some ⟨b, 0, none⟩)) (.pointer (some ⟨c, 0, none⟩))).run P w = .ok false w := he 9999
  simp only [runs, execOp, hf.ev hx, hf.ev hy, eqGuard, Sem.run_bind, binOp]
  simp [he']
end
end Go.Sl
