/- 'append(s, make([]T, n)...)' for elements of one cell. -/
import Derived.Test.Qxb6500573aGreatDoorSlK
namespace Go.Sl
open Go

section
variable {P : Program} {n : Nat} {Q : Post} {D : Defs} {ρ : Env} {H : Hp} {ops : Array Oper} {ty : TypeId} {K : Kont} {d : Nat} {pos : String} {af : Array Edge} {g : Option (Nat × Bool)} {Hs : Hp}

theorem zeroCells_one (z : Value) (m : Nat) : Builtin.zeroCells #[z] m = (List.replicate m z).toArray := by
  apply Array.ext'
  simp only [Builtin.zeroCells]
  apply List.ext_getElem
  · simp
  · intro i h1 h2
    simp [Nat.mod_one]

theorem appZ_facts {i : TypeInfo} {j : Nat} (hb : j * (i.bytes + 1) ≤ 140737488355328) : j ≤ 140737488355328 ∧ j * i.bytes ≤ 140737488355328 ∧ IntKind.i64.wrap (j : Int) = j ∧ ¬ ((j : Int) < 0) ∧ ¬ (281474976710656 < (j : Int) * (i.bytes : Int)) := by
  have hj : j ≤ 140737488355328 := by
    have : j * 1 ≤ j * (i.bytes + 1) := Nat.mul_le_mul_left _ (by omega)
    omega
  have hjb : j * i.bytes ≤ 140737488355328 := by
    have : j * i.bytes ≤ j * (i.bytes + 1) := Nat.mul_le_mul_left _ (by omega)
    omega
  refine ⟨hj, hjb, wrap_i64 (by omega) (by omega), by omega, ?_⟩
  have : ((j * i.bytes : Nat) : Int) = (j : Int) * (i.bytes : Int) := by simp
  omega

theorem run_appendZ_in {t u e : TypeId} {i : TypeInfo} {z z0 : Value} {kd : IntKind} {b m c j : Nat} {w w' : World} (ht : P.underlying t = some (.slice e)) (hu : P.underlying u = some (.int kd))
    (hi : P.info? e = some i) (hk : i.size = 1) (hz : i.zero = some z0) (hzc : z0.cells = #[z]) (hb : j * (i.bytes + 1) ≤ 140737488355328) (hroom : m + j ≤ c)
    (hst : (storeCells ⟨b, m * 1, none⟩ (List.replicate j z) 0).run P w = .ok () w') :
    (Builtin.append_ #[t, u] ty #[.slice (some ⟨b, 0, none⟩) m c, I j]).run P w = .ok (.slice (some ⟨b, 0, none⟩) (m + j) c) w' := by
  obtain ⟨hj, hjb, hw, h1, h2⟩ := appZ_facts hb
  by_cases h3 : j = 0
  · have hst' : (storeCells ⟨b, m, none⟩ [] 0).run P w = .ok () w' := by simpa [h3] using hst
    simp [Builtin.append_, run_underlying ht, run_underlying hu, sizeOf, typeInfo, zeroValue, hi, hz, hk, hw, h1, h2, hroom, asInt, asIntOf, Addr_add, hzc, zeroCells_one, hst']
    simp [h3, hst']
  · have hst' : (storeCells ⟨b, m, none⟩ (List.replicate j z) 0).run P w = .ok () w' := by simpa using hst
    simp [Builtin.append_, run_underlying ht, run_underlying hu, sizeOf, typeInfo, zeroValue, hi, hz, hk, hw, h1, h2, hroom, asInt, asIntOf, Addr_add, hzc, zeroCells_one, h3, hst']

theorem run_appendZ_none {t u e : TypeId} {i : TypeInfo} {kd : IntKind} {w : World} (ht : P.underlying t = some (.slice e)) (hu : P.underlying u = some (.int kd))
    (hi : P.info? e = some i) :
    (Builtin.append_ #[t, u] ty #[.slice none 0 0, I 0]).run P w = .ok (.slice none 0 0) w := by
  have hw : IntKind.i64.wrap (0 : Int) = 0 := wrap_i64 (by omega) (by omega)
  simp [Builtin.append_, run_underlying ht, run_underlying hu, sizeOf, typeInfo, hi, hw, asInt, asIntOf]

theorem run_appendZ_out {t u e : TypeId} {i : TypeInfo} {z z0 : Value} {kd : IntKind} {base : Option Addr} {m c j cap : Nat} {xs : List Value} {w : World} (ht : P.underlying t = some (.slice e)) (hu : P.underlying u = some (.int kd))
    (hi : P.info? e = some i) (hk : i.size = 1) (hz : i.zero = some z0) (hzc : z0.cells = #[z]) (hb : j * (i.bytes + 1) ≤ 140737488355328) (ho : ∀ w', w' = w.drew → (Builtin.firstCells 1 m (.slice base m c)).run P w' = .ok xs.toArray w')
    (hroom : c < m + j) (hfit : Builtin.nextslicecap (m + j) c * i.bytes ≤ 281474976710656) (h63 : m + j ≤ 9223372036854775807)
    (hcap : (choose (.appendCap (m + j) c e)).run P w = .ok cap w.drew) :
    (Builtin.append_ #[t, u] ty #[.slice base m c, I j]).run P w =
      .ok (.slice (some ⟨w.heap.size, 0, none⟩) (m + j) cap) (w.drew.alloc (.cells (xs ++ List.replicate j z ++ List.replicate (cap - (m + j)) z).toArray e)) := by
  obtain ⟨hj, hjb, hw, h1, h2⟩ := appZ_facts hb
  have hn : ¬ (m + j ≤ c) := by omega
  have h63' : ¬ (9223372036854775807 < ((m : Int) + (j : Int))) := by omega
  have h48' : ¬ (281474976710656 < Builtin.nextslicecap (m + j) c * i.bytes) := by omega
  have ho' := ho _ rfl
  rw [run_choose] at hcap
  simp only [Question.forced, Bool.false_eq_true, if_false, Result.ok.injEq] at hcap
  have hcap1 := hcap.1
  by_cases h3 : j = 0
  · simp [Builtin.append_, run_underlying ht, run_underlying hu, sizeOf, typeInfo, zeroValue, hi, hz, hk, hw, h1, h2, hn, h63', h48', asInt, asIntOf, Question.forced, ho', newRow, hcap1, hzc, zeroCells_one]
    simp [h3]
    congr 2; apply Array.ext'; simp
  · simp [Builtin.append_, run_underlying ht, run_underlying hu, sizeOf, typeInfo, zeroValue, hi, hz, hk, hw, h1, h2, hn, h63', h48', asInt, asIntOf, Question.forced, ho', newRow, hcap1, hzc, zeroCells_one, h3]
    try (congr 2; apply Array.ext'; simp)

theorem SP1_appendZ {x y : Operand} {t e u : TypeId} {bytes : Nat} {z : Value} {kd : IntKind} {sa : Option Addr} {m c j : Nat} {xs : List Value} {s : Seg} {H' : Hp} (el : El P t e 1 bytes [z]) (hu : P.underlying u = some (.int kd)) (h1 : z.oneCell' = true)
    (hx : ev ρ x = some (.slice sa m c)) (hy : ev ρ y = some (I j)) (ha : Arr e 1 sa m c xs s) (hp : Pick s H H') (hb : (m + j) * (bytes + 1) ≤ 140737488355328) (hn : Nat.ble (d + 1) n = true)
    (kk : ∀ a' c' s', Arr e 1 a' (m + j) c' (xs ++ List.replicate j z) s' → K D ((d, .slice a' (m + j) c') :: ρ) (s' :: H')) :
    SP1 P n { dst := some d, op := .call { callee := .builtin .append, args := #[x, y], argTypes := #[t, u] }, type := ty, pos := pos, after := af, guard := g } Q K D ρ H :=
  fun A F a w hf ho => by
    have h1 : ∀ q, q ∈ List.replicate j z → q.oneCell' = true := fun q hq => by rw [(List.mem_replicate.1 hq).2]; exact h1
    obtain ⟨i, z0, hi, hk, hby, hz, hzc⟩ := el.info
    have hmem : ∀ p, p ∈ H.flatten → p ∈ H.flatten ++ F := fun p hp => List.mem_append_left _ hp
    have ho2 : Own A w (s ++ (H'.flatten ++ F)) := by
      rw [← List.append_assoc]; exact ho.perm (List.Perm.append_right F hp)
    have hdf : ∀ v', (a.put (some d) v').defers = D := fun v' => hf.defers
    subst hby
    have hbj : j * (i.bytes + 1) ≤ 140737488355328 := Nat.le_trans (Nat.mul_le_mul_right _ (by omega)) hb
    have hbm : m + j ≤ 140737488355328 := by
      have : (m + j) * 1 ≤ (m + j) * (i.bytes + 1) := Nat.mul_le_mul_left _ (by omega)
      omega
    have hbb : (m + j) * i.bytes ≤ 140737488355328 := by
      have : (m + j) * i.bytes ≤ (m + j) * (i.bytes + 1) := Nat.mul_le_mul_left _ (by omega)
      omega
    suffices hrun : ∃ a' c' s' w', Arr e 1 a' (m + j) c' (xs ++ List.replicate j z) s' ∧ Own A w' (s' ++ (H'.flatten ++ F)) ∧ (Builtin.append_ #[t, u] ty #[.slice sa m c, I j]).run P w = .ok (.slice a' (m + j) c') w' by
      obtain ⟨a', c', s', w', hA, hO, hr⟩ := hrun
      have h2 : (execOp a.eval { dst := some d, op := .call { callee := .builtin .append, args := #[x, y], argTypes := #[t, u] }, type := ty, pos := pos, after := af, guard := g }).run P w = .ok (.value (.slice a' (m + j) c')) w' := by
        simp [execOp, resolve, invoke, builtin, hf.ev hx, hf.ev hy, hr]
      unfold Oper.wp
      rw [h2]
      refine ⟨_, _, by rw [hdf]; exact hf.put hn _, ?_, by rw [hdf]; exact kk a' c' s' hA⟩
      simpa using hO
    have hlen2 : (xs ++ List.replicate j z).length = (m + j) * 1 := by rw [List.length_append, ha.1]; simp
    have grow : c < m + j → (∀ w', Own A w' (H.flatten ++ F) → (Builtin.firstCells 1 m (.slice sa m c)).run P w' = .ok xs.toArray w') →
        ∃ a' c' s' w', Arr e 1 a' (m + j) c' (xs ++ List.replicate j z) s' ∧ Own A w' (s' ++ (H'.flatten ++ F)) ∧ (Builtin.append_ #[t, u] ty #[.slice sa m c, I j]).run P w = .ok (.slice a' (m + j) c') w' := by
      intro hc hold
      obtain ⟨cap, hcap1, hcap2, hcap3⟩ := run_choose_cap (P := P) (m + j) c e w (by omega)
      have hr := run_appendZ_out (ty := ty) (base := sa) (xs := xs) el.sl hu hi hk hz hzc hbj (fun w' hw' => hold w' (hw' ▸ ho.drew)) hc (growslice_fits hc hbb) (by omega) hcap3
      have hal := ((ho2.right).drew).alloc (.cells (xs ++ List.replicate j z ++ List.replicate (cap - (m + j)) z).toArray e)
      refine ⟨_, _, blk w.heap.size e (xs ++ List.replicate j z ++ List.replicate (cap - (m + j)) z), _, Arr.mk hlen2 hcap1 ?_, ?_, hr⟩
      · simp
      · simpa [blk] using hal
    obtain ⟨hxl, hA⟩ := ha
    rcases hA with ⟨rfl, rfl, rfl, rfl⟩ | ⟨b, sp, rfl, hmc, hsp, rfl⟩
    · have hx0 : xs = [] := List.eq_nil_of_length_eq_zero (by simpa using hxl)
      subst hx0
      by_cases hj : j = 0
      · subst hj
        exact ⟨none, 0, [], w, Arr.nil e 1, ho2, run_appendZ_none el.sl hu hi⟩
      · exact grow (by omega) (fun w' _ => by simp [Builtin.firstCells])
    · by_cases hroom : m + j ≤ c
      · have hll : (xs ++ sp).length = c * 1 := by
          rw [List.length_append, hxl, hsp, ← Nat.add_mul]; congr 1; omega
        obtain ⟨w', hr, hO⟩ := run_storeCells (P := P) (b := b) (o := m * 1) (List.replicate j z) 0 (xs ++ sp) w h1 (by rw [hll, List.length_replicate]; omega) ho2
        refine ⟨_, _, blk b e (xs ++ List.replicate j z ++ sp.drop (j * 1)), w', Arr.mk hlen2 hroom ?_, ?_, run_appendZ_in el.sl hu hi hk hz hzc hbj hroom hr⟩
        · rw [List.length_drop, hsp, ← Nat.sub_mul]; congr 1; omega
        · have e1 : List.take (m * 1 + 0) (xs ++ sp) ++ List.replicate j z ++ List.drop (m * 1 + 0 + (List.replicate j z).length) (xs ++ sp) = xs ++ List.replicate j z ++ sp.drop (j * 1) := by
            rw [Nat.add_zero, ← hxl, List.take_left, List.drop_append]
            simp
          rw [e1] at hO
          simpa [blk] using hO
      · refine grow (by omega) (fun w' ho' => ?_)
        have hss := mem_of_pick hp
        have := (Arr.src (P := P) (H := H) (Arr.mk (T := e) (b := b) hxl hmc hsp) hss).2.2 m (Nat.le_refl _) A _ w' ho' hmem
        rwa [List.take_of_length_le (by omega)] at this

theorem y_minE {x y : Operand} {k : IntKind} {a b c : Int} {at_ : Array TypeId} (hx : ev ρ x = some (.int k a)) (hy : ev ρ y = some (.int k b)) (h : (if b < a then b else a) = c) : Yo P n (.call { callee := .builtin .min, args := #[x, y], argTypes := at_ }) ty ρ H (.int k c) := by
  subst h; exact y_min hx hy
theorem y_maxE {x y : Operand} {k : IntKind} {a b c : Int} {at_ : Array TypeId} (hx : ev ρ x = some (.int k a)) (hy : ev ρ y = some (.int k b)) (h : (if a < b then b else a) = c) : Yo P n (.call { callee := .builtin .max, args := #[x, y], argTypes := at_ }) ty ρ H (.int k c) := by
  subst h; exact y_max hx hy
theorem y_addE {t u : TypeId} {x y : Operand} {a b c : Int} (hx : ev ρ x = some (.int .i64 a)) (hy : ev ρ y = some (.int .i64 b)) (h : -9223372036854775808 ≤ c ∧ c ≤ 9223372036854775807) (e : a + b = c) : Yo P n (.binOp .add t x y u) ty ρ H (.int .i64 c) := by
  subst e; exact y_add hx hy h
theorem y_subE {t u : TypeId} {x y : Operand} {a b c : Int} (hx : ev ρ x = some (.int .i64 a)) (hy : ev ρ y = some (.int .i64 b)) (h : -9223372036854775808 ≤ c ∧ c ≤ 9223372036854775807) (e : a - b = c) : Yo P n (.binOp .sub t x y u) ty ρ H (.int .i64 c) := by
  subst e; exact y_sub hx hy h
theorem y_mulE {t u : TypeId} {x y : Operand} {a b c : Int} (hx : ev ρ x = some (.int .i64 a)) (hy : ev ρ y = some (.int .i64 b)) (h : -9223372036854775808 ≤ c ∧ c ≤ 9223372036854775807) (e : a * b = c) : Yo P n (.binOp .mul t x y u) ty ρ H (.int .i64 c) := by
  subst e; exact y_mul hx hy h
theorem y_loadE {t : TypeId} {x : Operand} {b o o' : Nat} {v : Value} (ha : ∀ w, (isAgg t).run P w = .ok false w) (hx : ev ρ x = some (.pointer (some ⟨b, o, none⟩))) (e : o = o') (hc : Cell H b o' v) : Yo P n (.load t x) ty ρ H v := by
  subst e; exact y_load ha hx hc

/-! Bits. -/
theorem ofInt_nat (w a : Nat) : BitVec.ofInt w (a : Int) = BitVec.ofNat w a := by simp
theorem bit_and7 (a : Nat) (h : a < 9223372036854775808) : bitI .and .i64 (a : Int) 7 = ((a % 8 : Nat) : Int) := by
  have e : BitVec.ofInt 64 (7 : Int) = BitVec.ofNat 64 7 := by decide
  show IntKind.i64.wrap ((BitVec.ofInt 64 (a : Int) &&& BitVec.ofInt 64 7).toNat : Int) = _
  rw [e, ofInt_nat, BitVec.toNat_and, BitVec.toNat_ofNat, BitVec.toNat_ofNat, Nat.mod_eq_of_lt (show a < 2 ^ 64 by omega), show (7 % 2 ^ 64) = 2 ^ 3 - 1 by decide, Nat.and_two_pow_sub_one_eq_mod]
  exact wrap_i64 (by omega) (by omega)
theorem bit_andNot7 (a : Nat) (h : a < 9223372036854775808) : bitI .andNot .i64 (a : Int) 7 = ((a / 8 * 8 : Nat) : Int) := by
  have e : BitVec.ofInt 64 (7 : Int) = BitVec.ofNat 64 7 := by decide
  show IntKind.i64.wrap ((BitVec.ofInt 64 (a : Int) &&& ~~~ BitVec.ofInt 64 7).toNat : Int) = _
  have h1 : (BitVec.ofNat 64 a &&& ~~~ BitVec.ofNat 64 7).toNat = a / 8 * 8 := by
    apply Nat.eq_of_testBit_eq
    intro i
    rw [show a / 8 * 8 = (a / 2 ^ 3) * 2 ^ 3 from rfl, Nat.testBit_mul_two_pow, Nat.testBit_div_two_pow]
    by_cases hi : i < 64
    · have h7 : Nat.testBit 7 i = decide (i < 3) := Nat.testBit_two_pow_sub_one 3 i
      rw [BitVec.testBit_toNat, BitVec.getLsbD_and, BitVec.getLsbD_not, BitVec.getLsbD_ofNat, BitVec.getLsbD_ofNat, h7]
      by_cases h3 : i < 3
      · simp [h3, hi]
        intro h; omega
      · simp [h3, hi, show 3 ≤ i by omega, show i - 3 + 3 = i by omega]
    · rw [BitVec.testBit_toNat, BitVec.getLsbD_of_ge _ _ (by omega)]
      have : Nat.testBit a i = false := Nat.testBit_lt_two_pow (Nat.lt_of_lt_of_le (show a < 2 ^ 64 by omega) (Nat.pow_le_pow_right (by omega) (by omega)))
      simp [show 3 ≤ i by omega, show i - 3 + 3 = i by omega, this]
  rw [e, ofInt_nat, h1]
  exact wrap_i64 (by omega) (by omega)
theorem bit_andU32 (a : Int) : bitI .and .i64 a 4294967295 = a % 4294967296 := by
  have e : BitVec.ofInt 64 (4294967295 : Int) = BitVec.ofNat 64 4294967295 := by decide
  show IntKind.i64.wrap ((BitVec.ofInt 64 a &&& BitVec.ofInt 64 4294967295).toNat : Int) = _
  rw [e, BitVec.toNat_and, BitVec.toNat_ofInt, BitVec.toNat_ofNat, show (4294967295 % 2 ^ 64) = 2 ^ 32 - 1 by decide, Nat.and_two_pow_sub_one_eq_mod]
  rw [wrap_i64 (by omega) (by omega)]
  omega
end
end Go.Sl
