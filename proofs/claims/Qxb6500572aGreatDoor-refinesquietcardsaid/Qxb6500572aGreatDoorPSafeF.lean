/- Values stay in range. -/
import Derived.Test.Qxb6500572aGreatDoorPSafeE
namespace Go.Sl
open Go Go.Wl Go.Proofs
set_option linter.unusedVariables false
theorem wrap64_rng (n : Int) : -9223372036854775808 ≤ IntKind.i64.wrap n ∧ IntKind.i64.wrap n ≤ 9223372036854775807 := by rw [IntKind.wrap_i64]; omega
theorem wrap32_rng (n : Int) : -2147483648 ≤ IntKind.i32.wrap n ∧ IntKind.i32.wrap n ≤ 2147483647 := by rw [IntKind.wrap_i32]; omega
theorem ok_n (n : Int) : (⟨false, IntKind.i32.wrap n⟩ : W).ok := by unfold W.ok; rw [if_neg (by simp)]; exact wrap32_rng n
theorem ok_w {n : Int} (h : -9223372036854775808 ≤ n ∧ n ≤ 9223372036854775807) : (⟨true, n⟩ : W).ok := by unfold W.ok; rw [if_pos rfl]; exact h
theorem ok_word {t : UInt8} {n : Int} (h : -9223372036854775808 ≤ n ∧ n ≤ 9223372036854775807) : (word t n).ok := by
  unfold word; split
  · exact ok_n n
  · exact ok_w h
theorem ok_0 : (⟨false, 0⟩ : W).ok := by unfold W.ok; rw [if_neg (by decide)]; exact ⟨by decide, by decide⟩
theorem load_rng (m : Mem) (op ad off : Int) : -9223372036854775808 ≤ (mload m op ad off).1 ∧ (mload m op ad off).1 ≤ 9223372036854775807 := by
  unfold mload
  split
  · dsimp only; exact ⟨by decide, by decide⟩
  · dsimp only
    unfold load8
    split
    · unfold loadV
      repeat' split
      all_goals exact wrap64_rng _
    · exact ⟨by decide, by decide⟩
theorem tr_rng (b : Bool) : -9223372036854775808 ≤ tr b ∧ tr b ≤ 9223372036854775807 := by unfold tr; split <;> exact ⟨by decide, by decide⟩
theorem bit_rng (o : BinOp) (a b : Int) : -9223372036854775808 ≤ bitI o .i64 a b ∧ bitI o .i64 a b ≤ 9223372036854775807 := by
  unfold bitI
  split <;> first | exact wrap64_rng _ | exact ⟨by decide, by decide⟩
theorem tmod_rng {a b : Int} (h : -9223372036854775808 ≤ a ∧ a ≤ 9223372036854775807) : -9223372036854775808 ≤ a.tmod b ∧ a.tmod b ≤ 9223372036854775807 := by
  have h1 : (a.tmod b).natAbs ≤ a.natAbs := by rw [Int.natAbs_tmod]; exact Nat.mod_le _ _
  by_cases ha : 0 ≤ a
  · have := Int.tmod_nonneg b ha; omega
  · have h2 := Int.tmod_nonneg b (show 0 ≤ -a by omega)
    rw [Int.neg_tmod] at h2; omega
theorem fdiv_rng {a : Int} (k : Nat) (h : -9223372036854775808 ≤ a ∧ a ≤ 9223372036854775807) : -9223372036854775808 ≤ a.fdiv (2 ^ k) ∧ a.fdiv (2 ^ k) ≤ 9223372036854775807 := by
  have hp : (0 : Int) < 2 ^ k := Int.pow_pos (by decide)
  rw [Int.fdiv_eq_ediv_of_nonneg _ (by omega)]
  generalize (2 : Int) ^ k = d at hp ⊢
  exact ⟨Int.le_ediv_of_mul_le hp (by omega), Int.ediv_le_of_le_mul hp (by omega)⟩
theorem unitR_rng (kind a b : Int) (h : -9223372036854775808 ≤ a ∧ a ≤ 9223372036854775807) : -9223372036854775808 ≤ unitR .i64 .u64 kind a b ∧ unitR .i64 .u64 kind a b ≤ 9223372036854775807 := by
  unfold unitR
  by_cases h0 : kind = 0
  · rw [if_pos h0]; exact wrap64_rng _
  rw [if_neg h0]
  by_cases h1 : kind = 1
  · rw [if_pos h1]; exact wrap64_rng _
  rw [if_neg h1]
  by_cases h2 : kind = 2
  · rw [if_pos h2]; exact wrap64_rng _
  rw [if_neg h2]
  by_cases h3 : kind = 3
  · rw [if_pos h3]; exact wrap64_rng _
  rw [if_neg h3]
  by_cases h4 : kind = 4
  · rw [if_pos h4]; exact wrap64_rng _
  rw [if_neg h4]
  by_cases h5 : kind = 5
  · rw [if_pos h5]; exact tmod_rng h
  rw [if_neg h5]
  by_cases h6 : kind = 6
  · rw [if_pos h6]; exact wrap64_rng _
  rw [if_neg h6]
  by_cases h7 : kind = 7
  · rw [if_pos h7]; exact bit_rng _ _ _
  rw [if_neg h7]
  by_cases h8 : kind = 8
  · rw [if_pos h8]; exact bit_rng _ _ _
  rw [if_neg h8]
  by_cases h9 : kind = 9
  · rw [if_pos h9]; exact bit_rng _ _ _
  rw [if_neg h9]
  by_cases h10 : kind = 10
  · rw [if_pos h10]; exact wrap64_rng _
  rw [if_neg h10]
  by_cases h11 : kind = 11
  · rw [if_pos h11]; exact fdiv_rng _ h
  rw [if_neg h11]
  by_cases h12 : kind = 12
  · rw [if_pos h12]; exact wrap64_rng _
  rw [if_neg h12]
  exact ⟨by decide, by decide⟩
theorem alu_rng (op a b : Int) (h : -9223372036854775808 ≤ a ∧ a ≤ 9223372036854775807) : -9223372036854775808 ≤ (alu op a b).1 ∧ (alu op a b).1 ≤ 9223372036854775807 := by
  unfold alu
  repeat' split
  all_goals first | exact tr_rng _ | exact wrap64_rng _ | exact ⟨by decide, by decide⟩ | skip
  all_goals
    unfold unitF
    repeat' split
    all_goals first | exact tr_rng _ | exact wrap64_rng _ | exact ⟨by decide, by decide⟩ | skip
  show -9223372036854775808 ≤ unitR .i64 .u64 (op - 60) a b ∧ unitR .i64 .u64 (op - 60) a b ≤ 9223372036854775807
  exact unitR_rng _ _ _ h
theorem ans_rng (s : List UInt8) (k : Nat) : ∀ y, y ∈ (answer s k).1 → -9223372036854775808 ≤ y.v ∧ y.v ≤ 9223372036854775807 := by
  have hs := sgn_rng (s.getD (2 * k + 1) 0)
  unfold answer
  intro y hy
  repeat' split at hy
  all_goals first | (simp only [List.mem_cons, List.not_mem_nil, or_false] at hy; subst hy; dsimp only; omega) | (simp only [List.mem_cons, List.not_mem_nil, or_false] at hy; rcases hy with hy | hy <;> (subst hy; dsimp only; omega)) | (simp at hy; done)
theorem call_rng (h : Host) (imq : Int) (args : List Val) : ∀ y, y ∈ (hostCall h imq args).2.1 → -9223372036854775808 ≤ y.v ∧ y.v ≤ 9223372036854775807 := by
  unfold hostCall
  intro y hy
  split at hy
  · simp at hy
  · split at hy
    · simp at hy
    · dsimp only at hy
      split at hy
      · exact ans_rng _ _ y hy
      · simp at hy
theorem ask_ok (h : Host) (imq : Int) (rs : List UInt8) (vals : List W) : ∀ y, y ∈ (askM h imq rs vals).2.2 → y.ok := by
  unfold askM
  intro y hy
  repeat' split at hy
  all_goals first | (simp at hy; done) | skip
  obtain ⟨v, hv, rfl⟩ := List.mem_map.1 hy
  exact ok_word (call_rng _ _ _ v hv)
theorem exec_ok {m : VM} {c : Flat} (ho : ∀ y, y ∈ m.i.st → y.ok) (h18 : c.op = 18 → i64ok c.imm) : ∀ y, y ∈ (m.exec c).1.i.st → y.ok := by
  have hd : ∀ {l : List W}, (∀ y, y ∈ l → y.ok) → ∀ y, y ∈ l.dropLast → y.ok := fun h y hy => h y (drop_mem hy)
  have hap : ∀ {l : List W} {x : W}, (∀ y, y ∈ l → y.ok) → x.ok → ∀ y, y ∈ l ++ [x] → y.ok := fun h hx y hy => by
    rcases List.mem_append.1 hy with hy | hy
    · exact h y hy
    · simp at hy; subst hy; exact hx
  have htd : ∀ {l : List W} (a b : Nat), (∀ y, y ∈ l → y.ok) → ∀ y, y ∈ l.take a ++ l.drop b → y.ok := fun a b h y hy => by
    rcases List.mem_append.1 hy with hy | hy
    · exact h y (List.mem_of_mem_take hy)
    · exact h y (List.mem_of_mem_drop hy)
  have hls : ∀ {l : List W}, (∀ y, y ∈ l → y.ok) → (lst l).ok := fun {l} h => by
    by_cases hl : 0 < l.length
    · exact h _ (lst_mem hl)
    · have : l = [] := List.eq_nil_of_length_eq_zero (by omega)
      subst this; exact ok_0
  by_cases h0 : c.op = 0
  · rw [VM.exec, if_pos h0]
    exact ho
  by_cases h1 : c.op = 3
  · rw [VM.exec, if_neg h0, if_pos h1]
    unfold VM.x3; split <;> exact hd ho
  by_cases h2 : c.op = 4
  · rw [VM.exec, if_neg h0, if_neg h1, if_pos h2]
    exact ho
  by_cases h3 : c.op = 5 ∨ c.op = 9
  · rw [VM.exec, if_neg h0, if_neg h1, if_neg h2, if_pos h3]
    exact htd _ _ ho
  by_cases h4 : c.op = 6
  · rw [VM.exec, if_neg h0, if_neg h1, if_neg h2, if_neg h3, if_pos h4]
    exact htd _ _ ho
  by_cases h5 : c.op = 7
  · rw [VM.exec, if_neg h0, if_neg h1, if_neg h2, if_neg h3, if_neg h4, if_pos h5]
    unfold VM.x7; split
    · exact hd ho
    · exact htd _ _ (hd ho)
  by_cases h6 : c.op = 8
  · rw [VM.exec, if_neg h0, if_neg h1, if_neg h2, if_neg h3, if_neg h4, if_neg h5, if_pos h6]
    exact htd _ _ (hd ho)
  by_cases h7 : c.op = 10
  · rw [VM.exec, if_neg h0, if_neg h1, if_neg h2, if_neg h3, if_neg h4, if_neg h5, if_neg h6, if_pos h7]
    unfold VM.x10; split
    · split
      · intro y hy
        rcases List.mem_append.1 (show y ∈ m.i.st ++ _ from hy) with hy | hy
        · exact ho y hy
        · obtain ⟨t, _, rfl⟩ := List.mem_map.1 hy
          exact ok_word ⟨by decide, by decide⟩
      · exact ho
    · split
      · intro y hy
        rcases List.mem_append.1 (show y ∈ m.i.st.take _ ++ _ from hy) with hy | hy
        · exact ho y (List.mem_of_mem_take hy)
        · exact ask_ok _ _ _ _ y hy
      · exact ho
  by_cases h8 : c.op = 11
  · rw [VM.exec, if_neg h0, if_neg h1, if_neg h2, if_neg h3, if_neg h4, if_neg h5, if_neg h6, if_neg h7, if_pos h8]
    exact hd ho
  by_cases h9 : c.op = 12
  · rw [VM.exec, if_neg h0, if_neg h1, if_neg h2, if_neg h3, if_neg h4, if_neg h5, if_neg h6, if_neg h7, if_neg h8, if_pos h9]
    unfold VM.x12; split
    · exact hap (hd (hd (hd ho))) (hls (hd ho))
    · exact hap (hd (hd (hd ho))) (hls (hd (hd ho)))
  by_cases h10 : c.op = 13
  · rw [VM.exec, if_neg h0, if_neg h1, if_neg h2, if_neg h3, if_neg h4, if_neg h5, if_neg h6, if_neg h7, if_neg h8, if_neg h9, if_pos h10]
    refine hap ho ?_
    rw [List.getD_eq_getElem?_getD]
    cases hg : m.i.st[(m.i.top.base + c.imm).toNat]? with
    | none => exact ok_0
    | some y => exact ho y (List.mem_of_getElem? hg)
  by_cases h11 : c.op = 14
  · rw [VM.exec, if_neg h0, if_neg h1, if_neg h2, if_neg h3, if_neg h4, if_neg h5, if_neg h6, if_neg h7, if_neg h8, if_neg h9, if_neg h10, if_pos h11]
    intro y hy
    rcases List.mem_or_eq_of_mem_set (show y ∈ m.i.st.dropLast.set _ _ from hy) with hy | hy
    · exact hd ho y hy
    · rw [hy]; exact hls ho
  by_cases h12 : c.op = 15
  · rw [VM.exec, if_neg h0, if_neg h1, if_neg h2, if_neg h3, if_neg h4, if_neg h5, if_neg h6, if_neg h7, if_neg h8, if_neg h9, if_neg h10, if_neg h11, if_pos h12]
    exact hap ho (ok_n _)
  by_cases h13 : c.op = 16
  · rw [VM.exec, if_neg h0, if_neg h1, if_neg h2, if_neg h3, if_neg h4, if_neg h5, if_neg h6, if_neg h7, if_neg h8, if_neg h9, if_neg h10, if_neg h11, if_neg h12, if_pos h13]
    exact hap (hd ho) (ok_n _)
  by_cases h14 : c.op = 17
  · rw [VM.exec, if_neg h0, if_neg h1, if_neg h2, if_neg h3, if_neg h4, if_neg h5, if_neg h6, if_neg h7, if_neg h8, if_neg h9, if_neg h10, if_neg h11, if_neg h12, if_neg h13, if_pos h14]
    exact hap ho (ok_n _)
  by_cases h15 : c.op = 18
  · rw [VM.exec, if_neg h0, if_neg h1, if_neg h2, if_neg h3, if_neg h4, if_neg h5, if_neg h6, if_neg h7, if_neg h8, if_neg h9, if_neg h10, if_neg h11, if_neg h12, if_neg h13, if_neg h14, if_pos h15]
    exact hap ho (ok_w (h18 h15))
  by_cases h16 : 19 ≤ c.op ∧ c.op ≤ 24
  · rw [VM.exec, if_neg h0, if_neg h1, if_neg h2, if_neg h3, if_neg h4, if_neg h5, if_neg h6, if_neg h7, if_neg h8, if_neg h9, if_neg h10, if_neg h11, if_neg h12, if_neg h13, if_neg h14, if_neg h15, if_pos h16]
    unfold VM.x19; split
    · split
      · exact hap (hd ho) (ok_w (load_rng _ _ _ _))
      · exact hap (hd ho) (ok_n _)
    · exact ho
  by_cases h17 : 25 ≤ c.op ∧ c.op ≤ 28
  · rw [VM.exec, if_neg h0, if_neg h1, if_neg h2, if_neg h3, if_neg h4, if_neg h5, if_neg h6, if_neg h7, if_neg h8, if_neg h9, if_neg h10, if_neg h11, if_neg h12, if_neg h13, if_neg h14, if_neg h15, if_neg h16, if_pos h17]
    unfold VM.x25; split
    · exact hd (hd ho)
    · exact ho
  by_cases h18 : aluBin c.op = true
  · rw [VM.exec, if_neg h0, if_neg h1, if_neg h2, if_neg h3, if_neg h4, if_neg h5, if_neg h6, if_neg h7, if_neg h8, if_neg h9, if_neg h10, if_neg h11, if_neg h12, if_neg h13, if_neg h14, if_neg h15, if_neg h16, if_neg h17, if_pos h18]
    unfold VM.xb; split
    · exact hap (hd (hd ho)) (ok_word (alu_rng _ _ _ (W.ok_rng (hls (hd ho)))))
    · exact ho
  rw [VM.exec, if_neg h0, if_neg h1, if_neg h2, if_neg h3, if_neg h4, if_neg h5, if_neg h6, if_neg h7, if_neg h8, if_neg h9, if_neg h10, if_neg h11, if_neg h12, if_neg h13, if_neg h14, if_neg h15, if_neg h16, if_neg h17, if_neg h18]
  unfold VM.xu; split
  · exact hap (hd ho) (ok_word (alu_rng _ _ _ (W.ok_rng (hls ho))))
  · exact ho
structure MOk (m : Mem) : Prop where
  ok : MemOk m
  d : 8 ∣ m.bytes.length
theorem exec_mem {m : VM} {c : Flat} (h : MOk m.mem) : MOk (m.exec c).1.mem := by
  by_cases h0 : c.op = 0
  · rw [VM.exec, if_pos h0]
    exact h
  by_cases h1 : c.op = 3
  · rw [VM.exec, if_neg h0, if_pos h1]
    unfold VM.x3; split <;> exact h
  by_cases h2 : c.op = 4
  · rw [VM.exec, if_neg h0, if_neg h1, if_pos h2]
    exact h
  by_cases h3 : c.op = 5 ∨ c.op = 9
  · rw [VM.exec, if_neg h0, if_neg h1, if_neg h2, if_pos h3]
    exact h
  by_cases h4 : c.op = 6
  · rw [VM.exec, if_neg h0, if_neg h1, if_neg h2, if_neg h3, if_pos h4]
    exact h
  by_cases h5 : c.op = 7
  · rw [VM.exec, if_neg h0, if_neg h1, if_neg h2, if_neg h3, if_neg h4, if_pos h5]
    unfold VM.x7; split <;> exact h
  by_cases h6 : c.op = 8
  · rw [VM.exec, if_neg h0, if_neg h1, if_neg h2, if_neg h3, if_neg h4, if_neg h5, if_pos h6]
    exact h
  by_cases h7 : c.op = 10
  · rw [VM.exec, if_neg h0, if_neg h1, if_neg h2, if_neg h3, if_neg h4, if_neg h5, if_neg h6, if_pos h7]
    unfold VM.x10; split
    · split <;> exact h
    · split <;> exact h
  by_cases h8 : c.op = 11
  · rw [VM.exec, if_neg h0, if_neg h1, if_neg h2, if_neg h3, if_neg h4, if_neg h5, if_neg h6, if_neg h7, if_pos h8]
    exact h
  by_cases h9 : c.op = 12
  · rw [VM.exec, if_neg h0, if_neg h1, if_neg h2, if_neg h3, if_neg h4, if_neg h5, if_neg h6, if_neg h7, if_neg h8, if_pos h9]
    unfold VM.x12; split <;> exact h
  by_cases h10 : c.op = 13
  · rw [VM.exec, if_neg h0, if_neg h1, if_neg h2, if_neg h3, if_neg h4, if_neg h5, if_neg h6, if_neg h7, if_neg h8, if_neg h9, if_pos h10]
    exact h
  by_cases h11 : c.op = 14
  · rw [VM.exec, if_neg h0, if_neg h1, if_neg h2, if_neg h3, if_neg h4, if_neg h5, if_neg h6, if_neg h7, if_neg h8, if_neg h9, if_neg h10, if_pos h11]
    exact h
  by_cases h12 : c.op = 15
  · rw [VM.exec, if_neg h0, if_neg h1, if_neg h2, if_neg h3, if_neg h4, if_neg h5, if_neg h6, if_neg h7, if_neg h8, if_neg h9, if_neg h10, if_neg h11, if_pos h12]
    exact h
  by_cases h13 : c.op = 16
  · rw [VM.exec, if_neg h0, if_neg h1, if_neg h2, if_neg h3, if_neg h4, if_neg h5, if_neg h6, if_neg h7, if_neg h8, if_neg h9, if_neg h10, if_neg h11, if_neg h12, if_pos h13]
    exact ⟨(grow_ok h.ok h.d _).1, (grow_ok h.ok h.d _).2⟩
  by_cases h14 : c.op = 17
  · rw [VM.exec, if_neg h0, if_neg h1, if_neg h2, if_neg h3, if_neg h4, if_neg h5, if_neg h6, if_neg h7, if_neg h8, if_neg h9, if_neg h10, if_neg h11, if_neg h12, if_neg h13, if_pos h14]
    exact h
  by_cases h15 : c.op = 18
  · rw [VM.exec, if_neg h0, if_neg h1, if_neg h2, if_neg h3, if_neg h4, if_neg h5, if_neg h6, if_neg h7, if_neg h8, if_neg h9, if_neg h10, if_neg h11, if_neg h12, if_neg h13, if_neg h14, if_pos h15]
    exact h
  by_cases h16 : 19 ≤ c.op ∧ c.op ≤ 24
  · rw [VM.exec, if_neg h0, if_neg h1, if_neg h2, if_neg h3, if_neg h4, if_neg h5, if_neg h6, if_neg h7, if_neg h8, if_neg h9, if_neg h10, if_neg h11, if_neg h12, if_neg h13, if_neg h14, if_neg h15, if_pos h16]
    unfold VM.x19; split <;> exact h
  by_cases h17 : 25 ≤ c.op ∧ c.op ≤ 28
  · rw [VM.exec, if_neg h0, if_neg h1, if_neg h2, if_neg h3, if_neg h4, if_neg h5, if_neg h6, if_neg h7, if_neg h8, if_neg h9, if_neg h10, if_neg h11, if_neg h12, if_neg h13, if_neg h14, if_neg h15, if_neg h16, if_pos h17]
    have hs := store_len m.mem c.op (lst m.pop.i.st).n c.imm (lst m.i.st).n
    have h2 : MOk (mstore m.mem c.op (lst m.pop.i.st).n c.imm (lst m.i.st).n).1 := ⟨⟨by rw [hs.1, hs.2]; exact h.ok.len, by rw [hs.2]; exact h.ok.max⟩, by rw [hs.1]; exact h.d⟩
    unfold VM.x25; split <;> exact h2
  by_cases h18 : aluBin c.op = true
  · rw [VM.exec, if_neg h0, if_neg h1, if_neg h2, if_neg h3, if_neg h4, if_neg h5, if_neg h6, if_neg h7, if_neg h8, if_neg h9, if_neg h10, if_neg h11, if_neg h12, if_neg h13, if_neg h14, if_neg h15, if_neg h16, if_neg h17, if_pos h18]
    unfold VM.xb; split <;> exact h
  rw [VM.exec, if_neg h0, if_neg h1, if_neg h2, if_neg h3, if_neg h4, if_neg h5, if_neg h6, if_neg h7, if_neg h8, if_neg h9, if_neg h10, if_neg h11, if_neg h12, if_neg h13, if_neg h14, if_neg h15, if_neg h16, if_neg h17, if_neg h18]
  unfold VM.xu; split <;> exact h
/-- The host, as the call goes on. -/
structure HOk (o : Op1) (h : Host) : Prop where
  kind : h.kind = (host0 o).kind
  s : h.s = o.t
  k : h.k ≤ 7
  tr : h.trace.length ≤ 200 * h.k
  kl : h.kept.length ≤ h.k
  kn : ∀ n, n ∈ h.kept → n ≤ 1000
theorem ask_host {o : Op1} {h : Host} (hh : HOk o h) (imq : Int) (rs : List UInt8) (vals : List W) (hv : vals.length ≤ 1000) : HOk o (askM h imq rs vals).1 := by
  have e : HOk o (hostCall h imq (vals.map W.val)).1 := by
    unfold hostCall
    split
    · exact hh
    · split
      · exact hh
      · rename_i h1 h2
        refine ⟨hh.kind, hh.s, by dsimp only; omega, ?_, ?_, ?_⟩
        · have := hh.tr; have := numS_len imq; have := valsS_len (vals.map W.val)
          simp only [List.length_append, List.length_cons, List.length_nil]; omega
        · have := hh.kl; simp; omega
        · intro n hn
          rcases List.mem_append.1 hn with hn | hn
          · exact hh.kn n hn
          · simp at hn; omega
  unfold askM
  repeat' split
  all_goals first | exact hh | exact e
theorem exec_hostok {o : Op1} {m : VM} {c : Flat} (h : HOk o m.host) (hl : m.i.st.length ≤ 1000) : HOk o (m.exec c).1.host := by
  by_cases h0 : c.op = 0
  · rw [VM.exec, if_pos h0]
    exact h
  by_cases h1 : c.op = 3
  · rw [VM.exec, if_neg h0, if_pos h1]
    unfold VM.x3; split <;> exact h
  by_cases h2 : c.op = 4
  · rw [VM.exec, if_neg h0, if_neg h1, if_pos h2]
    exact h
  by_cases h3 : c.op = 5 ∨ c.op = 9
  · rw [VM.exec, if_neg h0, if_neg h1, if_neg h2, if_pos h3]
    exact h
  by_cases h4 : c.op = 6
  · rw [VM.exec, if_neg h0, if_neg h1, if_neg h2, if_neg h3, if_pos h4]
    exact h
  by_cases h5 : c.op = 7
  · rw [VM.exec, if_neg h0, if_neg h1, if_neg h2, if_neg h3, if_neg h4, if_pos h5]
    unfold VM.x7; split <;> exact h
  by_cases h6 : c.op = 8
  · rw [VM.exec, if_neg h0, if_neg h1, if_neg h2, if_neg h3, if_neg h4, if_neg h5, if_pos h6]
    exact h
  by_cases h7 : c.op = 10
  · rw [VM.exec, if_neg h0, if_neg h1, if_neg h2, if_neg h3, if_neg h4, if_neg h5, if_neg h6, if_pos h7]
    have hv : ∀ b, (m.i.st.drop b).length ≤ 1000 := fun b => by rw [List.length_drop]; omega
    unfold VM.x10; split
    · split <;> exact h
    · split
      · exact ask_host h _ _ _ (hv _)
      · exact ask_host h _ _ _ (hv _)
  by_cases h8 : c.op = 11
  · rw [VM.exec, if_neg h0, if_neg h1, if_neg h2, if_neg h3, if_neg h4, if_neg h5, if_neg h6, if_neg h7, if_pos h8]
    exact h
  by_cases h9 : c.op = 12
  · rw [VM.exec, if_neg h0, if_neg h1, if_neg h2, if_neg h3, if_neg h4, if_neg h5, if_neg h6, if_neg h7, if_neg h8, if_pos h9]
    unfold VM.x12; split <;> exact h
  by_cases h10 : c.op = 13
  · rw [VM.exec, if_neg h0, if_neg h1, if_neg h2, if_neg h3, if_neg h4, if_neg h5, if_neg h6, if_neg h7, if_neg h8, if_neg h9, if_pos h10]
    exact h
  by_cases h11 : c.op = 14
  · rw [VM.exec, if_neg h0, if_neg h1, if_neg h2, if_neg h3, if_neg h4, if_neg h5, if_neg h6, if_neg h7, if_neg h8, if_neg h9, if_neg h10, if_pos h11]
    exact h
  by_cases h12 : c.op = 15
  · rw [VM.exec, if_neg h0, if_neg h1, if_neg h2, if_neg h3, if_neg h4, if_neg h5, if_neg h6, if_neg h7, if_neg h8, if_neg h9, if_neg h10, if_neg h11, if_pos h12]
    exact h
  by_cases h13 : c.op = 16
  · rw [VM.exec, if_neg h0, if_neg h1, if_neg h2, if_neg h3, if_neg h4, if_neg h5, if_neg h6, if_neg h7, if_neg h8, if_neg h9, if_neg h10, if_neg h11, if_neg h12, if_pos h13]
    exact h
  by_cases h14 : c.op = 17
  · rw [VM.exec, if_neg h0, if_neg h1, if_neg h2, if_neg h3, if_neg h4, if_neg h5, if_neg h6, if_neg h7, if_neg h8, if_neg h9, if_neg h10, if_neg h11, if_neg h12, if_neg h13, if_pos h14]
    exact h
  by_cases h15 : c.op = 18
  · rw [VM.exec, if_neg h0, if_neg h1, if_neg h2, if_neg h3, if_neg h4, if_neg h5, if_neg h6, if_neg h7, if_neg h8, if_neg h9, if_neg h10, if_neg h11, if_neg h12, if_neg h13, if_neg h14, if_pos h15]
    exact h
  by_cases h16 : 19 ≤ c.op ∧ c.op ≤ 24
  · rw [VM.exec, if_neg h0, if_neg h1, if_neg h2, if_neg h3, if_neg h4, if_neg h5, if_neg h6, if_neg h7, if_neg h8, if_neg h9, if_neg h10, if_neg h11, if_neg h12, if_neg h13, if_neg h14, if_neg h15, if_pos h16]
    unfold VM.x19; split <;> exact h
  by_cases h17 : 25 ≤ c.op ∧ c.op ≤ 28
  · rw [VM.exec, if_neg h0, if_neg h1, if_neg h2, if_neg h3, if_neg h4, if_neg h5, if_neg h6, if_neg h7, if_neg h8, if_neg h9, if_neg h10, if_neg h11, if_neg h12, if_neg h13, if_neg h14, if_neg h15, if_neg h16, if_pos h17]
    unfold VM.x25; split <;> exact h
  by_cases h18 : aluBin c.op = true
  · rw [VM.exec, if_neg h0, if_neg h1, if_neg h2, if_neg h3, if_neg h4, if_neg h5, if_neg h6, if_neg h7, if_neg h8, if_neg h9, if_neg h10, if_neg h11, if_neg h12, if_neg h13, if_neg h14, if_neg h15, if_neg h16, if_neg h17, if_pos h18]
    unfold VM.xb; split <;> exact h
  rw [VM.exec, if_neg h0, if_neg h1, if_neg h2, if_neg h3, if_neg h4, if_neg h5, if_neg h6, if_neg h7, if_neg h8, if_neg h9, if_neg h10, if_neg h11, if_neg h12, if_neg h13, if_neg h14, if_neg h15, if_neg h16, if_neg h17, if_neg h18]
  unfold VM.xu; split <;> exact h
end Go.Sl
