/- Appends that keep the old row; appends onto windows. -/
import Derived.Test.Qxb6500573aGreatDoorSlWi
namespace Go.Sl
open Go
set_option linter.unusedVariables false
section
variable {P : Program} {n : Nat} {Q : Post} {D : Defs} {ρ : Env} {H : Hp} {ops : Array Oper} {ty : TypeId} {K : Kont} {d : Nat} {pos : String} {af : Array Edge} {g : Option (Nat × Bool)} {Hs : Hp}
/-- The same; the old row is kept, where it was left. -/
theorem SP1_appendK {x y : Operand} {t e u : TypeId} {k bytes : Nat} {z : List Value} {xv : Value} {sa : Option Addr} {m c j : Nat} {xs vs : List Value} {s : Seg} {H' : Hp} (el : El P t e k bytes z) (hu : P.underlying u = some (.slice e) ∨ P.underlying u = some .string)
    (hx : ev ρ x = some (.slice sa m c)) (hy : ev ρ y = some xv) (ha : Arr e k sa m c xs s) (hp : Pick s H H') (hs : Src P H k xv j vs) (h1' : vs.all Value.oneCell' = true) (hb : (m + j) * (bytes + 1) ≤ 140737488355328) (hn : Nat.ble (d + 1) n = true)
    (kk : ∀ a' c' s' old, Arr e k a' (m + j) c' (xs ++ vs) s' → ((a' = sa ∧ old = []) ∨ old = s) → K D ((d, .slice a' (m + j) c') :: ρ) (s' :: old :: H')) :
    SP1 P n { dst := some d, op := .call { callee := .builtin .append, args := #[x, y], argTypes := #[t, u] }, type := ty, pos := pos, after := af, guard := g } Q K D ρ H :=
  fun A F a w hf ho => by
    have h1 : ∀ q, q ∈ vs → q.oneCell' = true := fun q hq => List.all_eq_true.1 h1' q hq
    obtain ⟨hsl, hlen, hcells⟩ := hs
    obtain ⟨i, z0, hi, hk, hby, hz, hzc⟩ := el.info
    have hmem : ∀ p, p ∈ H.flatten → p ∈ H.flatten ++ F := fun p hp => List.mem_append_left _ hp
    have hfull : vs.take (j * k) = vs := List.take_of_length_le (by omega)
    have hnew : ∀ w', Own A w' (H.flatten ++ F) → (Builtin.firstCells k j xv).run P w' = .ok vs.toArray w' := fun w' ho' => by
      have := hcells j (Nat.le_refl _) A _ w' ho' hmem
      rwa [hfull] at this
    have ho2 : Own A w (s ++ (H'.flatten ++ F)) := by
      rw [← List.append_assoc]; exact ho.perm (List.Perm.append_right F hp)
    have hdf : ∀ v', (a.put (some d) v').defers = D := fun v' => hf.defers
    have hbm : m + j ≤ 140737488355328 := by
      have : (m + j) * 1 ≤ (m + j) * (bytes + 1) := Nat.mul_le_mul_left _ (by omega)
      omega
    have hbb : (m + j) * bytes ≤ 140737488355328 := by
      have : (m + j) * bytes ≤ (m + j) * (bytes + 1) := Nat.mul_le_mul_left _ (by omega)
      omega
    suffices hrun : ∃ a' c' s' old w', Arr e k a' (m + j) c' (xs ++ vs) s' ∧ ((a' = sa ∧ old = []) ∨ old = s) ∧ Own A w' (s' ++ (old ++ (H'.flatten ++ F))) ∧ (Builtin.append_ #[t, u] ty #[.slice sa m c, xv]).run P w = .ok (.slice a' (m + j) c') w' by
      obtain ⟨a', c', s', old, w', hA, hkeep, hO, hr⟩ := hrun
      have h2 : (execOp a.eval { dst := some d, op := .call { callee := .builtin .append, args := #[x, y], argTypes := #[t, u] }, type := ty, pos := pos, after := af, guard := g }).run P w = .ok (.value (.slice a' (m + j) c')) w' := by
        simp [execOp, resolve, invoke, builtin, hf.ev hx, hf.ev hy, hr]
      unfold Oper.wp
      rw [h2]
      refine ⟨_, _, by rw [hdf]; exact hf.put hn _, ?_, by rw [hdf]; exact kk a' c' s' old hA hkeep⟩
      simpa using hO
    have hlen2 : (xs ++ vs).length = (m + j) * k := by rw [List.length_append, ha.1, hsl, Nat.add_mul]
    have grow : c < m + j → (∀ w', Own A w' (H.flatten ++ F) → (Builtin.firstCells k m (.slice sa m c)).run P w' = .ok xs.toArray w') →
        ∃ a' c' s' old w', Arr e k a' (m + j) c' (xs ++ vs) s' ∧ ((a' = sa ∧ old = []) ∨ old = s) ∧ Own A w' (s' ++ (old ++ (H'.flatten ++ F))) ∧ (Builtin.append_ #[t, u] ty #[.slice sa m c, xv]).run P w = .ok (.slice a' (m + j) c') w' := by
      intro hc hold
      obtain ⟨cap, hcap1, hcap2, hcap3⟩ := run_choose_cap (P := P) (m + j) c e w (by omega)
      have hr := run_append_out (ty := ty) (base := sa) (xs := xs) el.sl hu hi hk hz hlen (fun w' hw' => hold w' (hw' ▸ ho.drew)) (fun w' hw' => hnew w' (hw' ▸ ho.drew)) hc (by rw [hby]; exact growslice_fits hc hbb) (by omega) hcap3
      have hal := (ho2.drew).alloc (.cells (xs.toArray ++ vs.toArray ++ Builtin.zeroCells z0.cells (cap - (m + j))) e)
      have ea : xs.toArray ++ vs.toArray ++ Builtin.zeroCells z0.cells (cap - (m + j)) = (xs ++ vs ++ (Builtin.zeroCells z0.cells (cap - (m + j))).toList).toArray := by
        apply Array.ext'; simp
      rw [ea] at hal hr
      refine ⟨_, _, blk w.heap.size e (xs ++ vs ++ (Builtin.zeroCells z0.cells (cap - (m + j))).toList), s, _, Arr.mk hlen2 hcap1 ?_, .inr rfl, ?_, hr⟩
      · rw [Array.length_toList, size_zeroCells, hzc]; simp [el.zl]
      · simpa [blk] using hal
    obtain ⟨hxl, hA⟩ := ha
    rcases hA with ⟨rfl, rfl, rfl, rfl⟩ | ⟨b, sp, rfl, hmc, hsp, rfl⟩
    · have hx0 : xs = [] := List.eq_nil_of_length_eq_zero (by simpa using hxl)
      subst hx0
      by_cases hj : j = 0
      · subst hj
        have hv0 : vs = [] := List.eq_nil_of_length_eq_zero (by simpa using hsl)
        subst hv0
        have := hnew w ho
        exact ⟨none, 0, [], [], w, Arr.nil e k, .inl ⟨rfl, rfl⟩, ho2, run_append_none el.sl hu hi hk hlen (by simpa using this)⟩
      · exact grow (by omega) (fun w' _ => by simp [Builtin.firstCells])
    · by_cases hroom : m + j ≤ c
      · have hll : (xs ++ sp).length = c * k := by
          rw [List.length_append, hxl, hsp, ← Nat.add_mul]; congr 1; omega
        have hjk : m * k + j * k ≤ c * k := by rw [← Nat.add_mul]; exact Nat.mul_le_mul_right k hroom
        obtain ⟨w', hr, hO⟩ := run_storeCells (P := P) (b := b) (o := m * k) vs 0 (xs ++ sp) w h1 (by rw [hll, hsl]; omega) ho2
        refine ⟨_, _, blk b e (xs ++ vs ++ sp.drop (j * k)), [], w', Arr.mk hlen2 hroom ?_, .inl ⟨rfl, rfl⟩, ?_, run_append_in el.sl hu hi hk hlen (hnew w ho) hroom hr⟩
        · rw [List.length_drop, hsp, ← Nat.sub_mul]; congr 1; omega
        · have e1 : List.take (m * k + 0) (xs ++ sp) ++ vs ++ List.drop (m * k + 0 + vs.length) (xs ++ sp) = xs ++ vs ++ sp.drop (j * k) := by
            rw [Nat.add_zero, ← hxl, List.take_left, List.drop_append, hsl]
            simp
          rw [e1] at hO
          simpa [blk] using hO
      · refine grow (by omega) (fun w' ho' => ?_)
        have hss := mem_of_pick hp
        have := (Arr.src (P := P) (H := H) (Arr.mk (T := e) (b := b) hxl hmc hsp) hss).2.2 m (Nat.le_refl _) A _ w' ho' hmem
        rwa [List.take_of_length_le (by omega)] at this
/-- 'append' onto a window without room: a new row is made. -/
theorem SP1_appendW {x y : Operand} {t e u : TypeId} {k bytes : Nat} {z : List Value} {xv : Value} {sa : Option Addr} {m j : Nat} {xs vs : List Value} (el : El P t e k bytes z) (hu : P.underlying u = some (.slice e) ∨ P.underlying u = some .string)
    (hx : ev ρ x = some (.slice sa m m)) (hy : ev ρ y = some xv) (hold : Src P H k (.slice sa m m) m xs) (hs : Src P H k xv j vs) (hj : 0 < j) (hb : (m + j) * (bytes + 1) ≤ 140737488355328) (hn : Nat.ble (d + 1) n = true)
    (kk : ∀ a' c' s', Arr e k a' (m + j) c' (xs ++ vs) s' → K D ((d, .slice a' (m + j) c') :: ρ) (s' :: H)) :
    SP1 P n { dst := some d, op := .call { callee := .builtin .append, args := #[x, y], argTypes := #[t, u] }, type := ty, pos := pos, after := af, guard := g } Q K D ρ H :=
  fun A F a w hf ho => by
    obtain ⟨hsl, hlen, hcells⟩ := hs
    obtain ⟨hxl, _, hxcells⟩ := hold
    obtain ⟨i, z0, hi, hk, hby, hz, hzc⟩ := el.info
    have hmem : ∀ p, p ∈ H.flatten → p ∈ H.flatten ++ F := fun p hp => List.mem_append_left _ hp
    have hnew : ∀ w', Own A w' (H.flatten ++ F) → (Builtin.firstCells k j xv).run P w' = .ok vs.toArray w' := fun w' ho' => by
      have := hcells j (Nat.le_refl _) A _ w' ho' hmem
      rwa [List.take_of_length_le (by omega)] at this
    have holdc : ∀ w', Own A w' (H.flatten ++ F) → (Builtin.firstCells k m (.slice sa m m)).run P w' = .ok xs.toArray w' := fun w' ho' => by
      have := hxcells m (Nat.le_refl _) A _ w' ho' hmem
      rwa [List.take_of_length_le (by omega)] at this
    have hdf : ∀ v', (a.put (some d) v').defers = D := fun v' => hf.defers
    have hbm : m + j ≤ 140737488355328 := by
      have : (m + j) * 1 ≤ (m + j) * (bytes + 1) := Nat.mul_le_mul_left _ (by omega)
      omega
    have hbb : (m + j) * bytes ≤ 140737488355328 := by
      have : (m + j) * bytes ≤ (m + j) * (bytes + 1) := Nat.mul_le_mul_left _ (by omega)
      omega
    have hlen2 : (xs ++ vs).length = (m + j) * k := by rw [List.length_append, hxl, hsl, Nat.add_mul]
    obtain ⟨cap, hcap1, hcap2, hcap3⟩ := run_choose_cap (P := P) (m + j) m e w (by omega)
    have hr := run_append_out (ty := ty) (base := sa) (xs := xs) el.sl hu hi hk hz hlen (fun w' hw' => holdc w' (hw' ▸ ho.drew)) (fun w' hw' => hnew w' (hw' ▸ ho.drew)) (by omega) (by rw [hby]; exact growslice_fits (by omega) hbb) (by omega) hcap3
    have hal := (ho.drew).alloc (.cells (xs.toArray ++ vs.toArray ++ Builtin.zeroCells z0.cells (cap - (m + j))) e)
    have ea : xs.toArray ++ vs.toArray ++ Builtin.zeroCells z0.cells (cap - (m + j)) = (xs ++ vs ++ (Builtin.zeroCells z0.cells (cap - (m + j))).toList).toArray := by
      apply Array.ext'; simp
    rw [ea] at hal hr
    have key : ∃ a' c' s' w', Arr e k a' (m + j) c' (xs ++ vs) s' ∧ Own A w' (s' ++ (H.flatten ++ F)) ∧ (Builtin.append_ #[t, u] ty #[.slice sa m m, xv]).run P w = .ok (.slice a' (m + j) c') w' :=
      ⟨_, _, blk w.heap.size e (xs ++ vs ++ (Builtin.zeroCells z0.cells (cap - (m + j))).toList), _, Arr.mk hlen2 hcap1 (by rw [Array.length_toList, size_zeroCells, hzc]; simp [el.zl]), by simpa [blk] using hal, hr⟩
    obtain ⟨a', c', s', w', hA, hO, hr2⟩ := key
    have h2 : (execOp a.eval { dst := some d, op := .call { callee := .builtin .append, args := #[x, y], argTypes := #[t, u] }, type := ty, pos := pos, after := af, guard := g }).run P w = .ok (.value (.slice a' (m + j) c')) w' := by
      simp [execOp, resolve, invoke, builtin, hf.ev hx, hf.ev hy, hr2]
    unfold Oper.wp
    rw [h2]
    refine ⟨_, _, by rw [hdf]; exact hf.put hn _, ?_, by rw [hdf]; exact kk a' c' s' hA⟩
    simpa using hO
end
end Go.Sl
