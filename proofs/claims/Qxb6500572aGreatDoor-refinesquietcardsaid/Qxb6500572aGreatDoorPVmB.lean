/- What the walks of the loop need of a state. -/
import Derived.Test.Qxb6500572aGreatDoorPVm
namespace Go.Wl
open Go Go.Sl
set_option linter.unusedVariables false
theorem itop_eq {i : Inst} (h : i.fr.length - 1 < i.fr.length) : i.top = i.fr[i.fr.length - 1] := by
  unfold Inst.top; rw [List.getD_eq_getElem?_getD, List.getElem?_eq_getElem h]; rfl
theorem Top.floor {m : VM} {n : Nat} (h : Top m n) (st : List W) (hl : m.i.st.length = st.length + n) : ∀ hh : m.i.fr.length - 1 < m.i.fr.length, m.i.fr[m.i.fr.length - 1].floor ≤ st.length := by
  intro hh
  rw [← itop_eq hh]
  unfold Top at h; omega
theorem Top.one {m : VM} (h : Top m 1) : m.i.st = m.i.st.dropLast ++ [lst m.i.st] := last1 (k := m.i.top.floor) h
theorem Top.two {m : VM} (h : Top m 2) : m.i.st = m.i.st.dropLast.dropLast ++ [lst m.i.st.dropLast, lst m.i.st] := last2 (k := m.i.top.floor) h
theorem Top.three {m : VM} (h : Top m 3) : m.i.st = m.i.st.dropLast.dropLast.dropLast ++ [lst m.i.st.dropLast.dropLast, lst m.i.st.dropLast, lst m.i.st] := last3 (k := m.i.top.floor) h
theorem Top.pop {m : VM} {n : Nat} (h : Top m (n + 1)) : Top m.pop n := by
  unfold Top at *
  show m.i.top.floor + n ≤ m.i.st.dropLast.length
  simp; omega
theorem Top.mono {m : VM} {n k : Nat} (h : Top m n) (hk : k ≤ n) : Top m k := by unfold Top at *; omega
theorem Top.len {m : VM} (h : Top m 1) : m.i.st.length = m.i.st.dropLast.length + 1 := by unfold Top at h; simp; omega
theorem w_false {y : W} (h : y.w = false) : y = ⟨false, y.n⟩ := by cases y; simp_all
theorem w_true {y : W} (h : y.w = true) : y = ⟨true, y.n⟩ := by cases y; simp_all
theorem ok32 {y : W} (h : y.w = false) (ho : y.ok) : -2147483648 ≤ y.n ∧ y.n ≤ 2147483647 := by unfold W.ok at ho; rwa [h, if_neg (by decide)] at ho
theorem ok64 {y : W} (h : y.w = true) (ho : y.ok) : -9223372036854775808 ≤ y.n ∧ y.n ≤ 9223372036854775807 := by unfold W.ok at ho; rwa [if_pos h] at ho
theorem lst_mem {st : List W} (h : 0 < st.length) : lst st ∈ st := by
  have := last1 (st := st) (k := 0) (by omega)
  have h2 : lst st ∈ st.dropLast ++ [lst st] := by simp
  rw [← this] at h2
  exact h2
theorem drop_mem {st : List W} {y : W} (h : y ∈ st.dropLast) : y ∈ st := (List.dropLast_sublist st).mem h
theorem word_ok {y : W} (ho : y.ok) : word y.t y.n = y := by
  obtain ⟨w, n⟩ := y
  cases w with
  | false =>
    have := ok32 (y := ⟨false, n⟩) rfl ho
    have e : word 105 n = ⟨false, n⟩ := by
      unfold word; rw [if_pos rfl, IntKind.wrap_i32]
      simp only at this
      congr 1
      omega
    exact e
  | true =>
    have e : word 108 n = ⟨true, n⟩ := by unfold word; rw [if_neg (by decide)]
    exact e
theorem Pre.pops {m : VM} (h : Pre m) : ∀ y, y ∈ m.pop.i.st → y.ok := fun y hy => h.ok y (drop_mem hy)
/-- The same state but for what no instruction asks. -/
theorem Pre.move {m m1 : VM} (h : Pre m) (h1 : m1.P = m.P) (h2 : m1.host = m.host) (h3 : m1.i.st = m.i.st) (h4 : m1.i.fr = m.i.fr) (h5 : 0 ≤ m1.i.used) : Pre m1 := by
  obtain ⟨P, steps, mem, ⟨st, fr, used, high⟩, host⟩ := m
  obtain ⟨P1, steps1, mem1, ⟨st1, fr1, used1, high1⟩, host1⟩ := m1
  simp only at h1 h2 h3 h4
  subst h1 h2 h3 h4
  obtain ⟨a1, a2, a3, _, a4, a5, a6, a7, ⟨b1, b2, b3, b4, b5, b6, b7, b8, b9, b10, b11, b12, b13⟩⟩ := h
  exact ⟨a1, a2, a3, h5, a4, a5, a6, a7, ⟨b1, b2, b3, b4, b5, b6, b7, b8, b9, b10, b11, b12, b13⟩⟩
theorem JumpOk.split {m : VM} {st : List W} {c : Flat} (h : JumpOk m st c) : ∃ mid, st = st.take ((m.i.top.floor : Int) + c.cut).toNat ++ mid ++ st.drop (st.length - c.keep.toNat) ∧ (c.keep : Int) = (st.drop (st.length - c.keep.toNat)).length ∧
    ∀ hh : m.i.fr.length - 1 < m.i.fr.length, (m.i.fr[m.i.fr.length - 1].floor : Int) + c.cut = (st.take ((m.i.top.floor : Int) + c.cut).toNat).length := by
  obtain ⟨h1, h2, h3⟩ := h
  refine ⟨(st.take (st.length - c.keep.toNat)).drop ((m.i.top.floor : Int) + c.cut).toNat, ?_, ?_, ?_⟩
  · have e : st.take ((m.i.top.floor : Int) + c.cut).toNat = (st.take (st.length - c.keep.toNat)).take ((m.i.top.floor : Int) + c.cut).toNat := by
      rw [List.take_take, Nat.min_eq_left (by omega)]
    rw [e, List.take_append_drop, List.take_append_drop]
  · rw [List.length_drop]; omega
  · intro hh
    rw [← itop_eq hh, List.length_take]; omega
theorem askM_kind (h : Host) (imq : Int) (rs : List UInt8) (vals : List W) : (askM h imq rs vals).1.kind = h.kind := by
  have e : (hostCall h imq (vals.map W.val)).1.kind = h.kind := by
    unfold hostCall; split; rfl; split <;> rfl
  unfold askM; repeat' split
  all_goals first | rfl | exact e
theorem hostV_kind {b : Nat} {h h' : Host} (e : h'.kind = h.kind) : hostV b h' = hostV b h := by unfold hostV; rw [e]
end Go.Wl
